/- Contracts of package span: corners and its iterator. -/
import Derived.RangeFuncNested
import Derived.RangeFuncBound
import Derived.RangeFuncCalls
import Derived.RangeFuncLeaves
import Derived.RangeFuncFrom
import Derived.Shelf.Abstract
import Derived.Shelf.RegionOpen
import Derived.OwnWalkIn
import Derived.TacticsInMore
import Derived.LoopNIn
import Derived.LoopIn
import Derived.Test.YthhkcfpljgdnhaaGreatSpanX
import Derived.Laws.EntriesVeiled
set_option maxRecDepth 100000
set_option maxHeartbeats 4000000
namespace Go.Proofs.YthhkcfpljgdnhaaGreat
open Go.RowKit Go.Shelf Mnc
attribute [local go_sem] Oper.semAt_some

/-- The pairs of ends. -/
def four (s t:Int×Int):List (Int×Int):=[(s.1,t.1),(s.1,t.2),(s.2,t.1),(s.2,t.2)]
def enc2 (x:Int×Int):Array Value:=#[.int .i64 x.1,.int .i64 x.2]
/-- What a round must keep: the two boxes that the iterator reads. -/
def KeepAB (A B:Nat) (W W':World):Prop:=W'.heap[A]?=W.heap[A]?/\W'.heap[B]?=W.heap[B]?
theorem KeepAB.trans {A B:Nat} {U V W:World} (h:KeepAB A B U V) (k:KeepAB A B V W):KeepAB A B U W:=⟨k.1.trans h.1,k.2.trans h.2⟩

theorem pick2_0 (x y:Int) (w:World):(Instr.index 50 (.agg #[.int .i64 x,.int .i64 y]) (.int .i64 0)).run Tryz.prog w=.ok (.int .i64 x) w:=by kernel_rfl
theorem pick2_1 (x y:Int) (w:World):(Instr.index 50 (.agg #[.int .i64 x,.int .i64 y]) (.int .i64 1)).run Tryz.prog w=.ok (.int .i64 y) w:=by kernel_rfl

theorem span_corners (s t:Int×Int) (w:World) :
  Calls Tryz.prog 97 #[.agg #[.int .i64 s.1,.int .i64 s.2],.agg #[.int .i64 t.1,.int .i64 t.2]] w fun e w'=>e=.returned (.func (.func 111) #[] #[.pointer (some ⟨w.heap.size,0,none⟩),.pointer (some ⟨w.heap.size+1,0,none⟩)])/\(w.alloc (.cells #[.int .i64 s.1,.int .i64 s.2] 31)).alloc (.cells #[.int .i64 t.1,.int .i64 t.2] 31)=w':=by
 go_enter Tryz.func97,Tryz.ntmps97
 go_wp2
 go_ret
 exact ⟨rfl,rfl⟩

set_option maxHeartbeats 2000000 in
theorem corners_in (s t:Int×Int) (n:Nat) (hn:1<=n) (A B:Nat) (w:World)
  (hA:w.heap[A]?=some (.cells #[.int .i64 s.1,.int .i64 s.2] 31 (0,0))) (hB:w.heap[B]?=some (.cells #[.int .i64 t.1,.int .i64 t.2] 31 (0,0))) :
  SeqStopsK Fence.wide n Tryz.prog 111 #[.pointer (some ⟨A,0,none⟩),.pointer (some ⟨B,0,none⟩)] enc2 (KeepAB A B) (fun xs=>xs=four s t) (fun pre=>pre <+: four s t) 4 w:=fun l J Jx W hW hJ hJx hY h0=>by
 have hA:=(hW.block _ (lt_of_block hA)).trans hA
 have hB:=(hW.block _ (lt_of_block hB)).trans hB
 refine callsIn_of_wp Tryz.func111 rfl trivial ?_ rfl
 simp only [Tryz.ntmps111,List.size_toArray,List.length_cons,List.length_nil,Nat.reduceAdd,Nat.reduceSub,Array.replicate_succ,Array.replicate_zero,List.push_toArray,List.append_toArray,List.nil_append,List.cons_append]
 have a0:=cell_two0 hA
 have a1:=cell_two1 hA
 gi_wp2
 gi_loopw [13] (fun i wr=>∃k:Nat,k<=2/\i=.int .i64 k/\Hid (J ((four s t).take (2*k)) wr)/\wr.heap[A]?=some (.cells #[.int .i64 s.1,.int .i64 s.2] 31 (0,0))/\wr.heap[B]?=some (.cells #[.int .i64 t.1,.int .i64 t.2] 31 (0,0))) (fun i _=>2-(intOf i).toNat)
 case atStart=>exact ⟨0,by omega,rfl,Lib.hid h0,hA,hB⟩
 case round =>
  clear a0 a1 hA hB
  obtain ⟨k,hk,rfl,HJ,hAr,hBr⟩:=hrel
  obtain ⟨wo,rfl⟩:∃wo:World,wo=wr:=⟨_,rfl⟩
  rcases (by omega:k=0∨k=1∨k=2) with rfl | rfl | rfl
  ·have HJ:Hid (J [] wo):=Lib.hid (by simpa [four] using HJ.out)
   have b0:=cell_two0 hBr
   have b1:=cell_two1 hBr
   have hi:=pick2_0 s.1 s.2
   gi_wp2
   gi_loopw [21] (fun j wr=>∃m:Nat,m<=2/\j=.int .i64 m/\Hid (J ([]++[(s.1,t.1),(s.1,t.2)].take m) wr)/\wr.heap[A]?=some (.cells #[.int .i64 s.1,.int .i64 s.2] 31 (0,0))/\wr.heap[B]?=some (.cells #[.int .i64 t.1,.int .i64 t.2] 31 (0,0))) (fun j _=>2-(intOf j).toNat)
   case atStart=>exact ⟨0,by omega,rfl,Lib.hid (by simpa using HJ.out),hAr,hBr⟩
   case round =>
    clear hi b0 b1
    obtain ⟨m,hm,rfl,HJ2,hA2,hB2⟩:=hrel
    rcases (by omega:m=0∨m=1∨m=2) with rfl | rfl | rfl
    ·have hi:=pick2_0 t.1 t.2
     obtain ⟨fn,tmps,assign,body,hy,hR⟩:=hY [] (s.1,t.1) wr (by simpa using HJ2.out) (by simp)
     dsimp only [enc2] at hy
     gi_wp2
     refine hR.mono ?_
     rintro e W3 (⟨rfl,hJ3,hk3⟩ | ⟨rfl,hJx3⟩)
     ·have HJ3:=Lib.hid hJ3
      have hA3:=hk3.1.trans hA2
      have hB3:=hk3.2.trans hB2
      clear hJ3 hk3 hA2 hB2
      gi_wp2
      go_roundw
      case rel=>first | exact ⟨1,by omega,rfl,Lib.hid (by simpa using HJ3.out),hA3,hB3⟩ | ((repeat apply Exists.intro);exact ⟨⟨1,by omega,rfl,Lib.hid (by simpa using HJ3.out),hA3,hB3⟩,rfl⟩)
      case measure=>simp [intOf]
     ·have HJ3:=Lib.hid hJx3
      clear hJx3
      gi_wp2
      refine bodyPost_ret (results_none rfl _ _ _) rfl ?_
      exact ⟨⟨_,rfl⟩,.inr ⟨_,by simp [four],HJ3.out⟩⟩
    ·have hi:=pick2_1 t.1 t.2
     obtain ⟨fn,tmps,assign,body,hy,hR⟩:=hY ([]++[(s.1,t.1)]) (s.1,t.2) wr (by simpa using HJ2.out) (by simp)
     dsimp only [enc2] at hy
     gi_wp2
     refine hR.mono ?_
     rintro e W3 (⟨rfl,hJ3,hk3⟩ | ⟨rfl,hJx3⟩)
     ·have HJ3:=Lib.hid hJ3
      have hA3:=hk3.1.trans hA2
      have hB3:=hk3.2.trans hB2
      clear hJ3 hk3 hA2 hB2
      gi_wp2
      go_roundw
      case rel=>first | exact ⟨2,by omega,rfl,Lib.hid (by simpa using HJ3.out),hA3,hB3⟩ | ((repeat apply Exists.intro);exact ⟨⟨2,by omega,rfl,Lib.hid (by simpa using HJ3.out),hA3,hB3⟩,rfl⟩)
      case measure=>simp [intOf]
     ·have HJ3:=Lib.hid hJx3
      clear hJx3
      gi_wp2
      refine bodyPost_ret (results_none rfl _ _ _) rfl ?_
      exact ⟨⟨_,rfl⟩,.inr ⟨_,by simp [four],HJ3.out⟩⟩
    ·gi_wp2
     go_roundw
     case rel=>exact ⟨1,by omega,rfl,Lib.hid (by simpa [four] using HJ2.out),hA2,hB2⟩
     case measure=>simp [intOf]
  ·have HJ:Hid (J [(s.1,t.1),(s.1,t.2)] wo):=Lib.hid (by simpa [four] using HJ.out)
   have b0:=cell_two0 hBr
   have b1:=cell_two1 hBr
   have hi:=pick2_1 s.1 s.2
   gi_wp2
   gi_loopw [21] (fun j wr=>∃m:Nat,m<=2/\j=.int .i64 m/\Hid (J ([(s.1,t.1),(s.1,t.2)]++[(s.2,t.1),(s.2,t.2)].take m) wr)/\wr.heap[A]?=some (.cells #[.int .i64 s.1,.int .i64 s.2] 31 (0,0))/\wr.heap[B]?=some (.cells #[.int .i64 t.1,.int .i64 t.2] 31 (0,0))) (fun j _=>2-(intOf j).toNat)
   case atStart=>exact ⟨0,by omega,rfl,Lib.hid (by simpa using HJ.out),hAr,hBr⟩
   case round =>
    clear hi b0 b1
    obtain ⟨m,hm,rfl,HJ2,hA2,hB2⟩:=hrel
    rcases (by omega:m=0∨m=1∨m=2) with rfl | rfl | rfl
    ·have hi:=pick2_0 t.1 t.2
     obtain ⟨fn,tmps,assign,body,hy,hR⟩:=hY [(s.1,t.1),(s.1,t.2)] (s.2,t.1) wr (by simpa using HJ2.out) (by simp)
     dsimp only [enc2] at hy
     gi_wp2
     refine hR.mono ?_
     rintro e W3 (⟨rfl,hJ3,hk3⟩ | ⟨rfl,hJx3⟩)
     ·have HJ3:=Lib.hid hJ3
      have hA3:=hk3.1.trans hA2
      have hB3:=hk3.2.trans hB2
      clear hJ3 hk3 hA2 hB2
      gi_wp2
      go_roundw
      case rel=>first | exact ⟨1,by omega,rfl,Lib.hid (by simpa using HJ3.out),hA3,hB3⟩ | ((repeat apply Exists.intro);exact ⟨⟨1,by omega,rfl,Lib.hid (by simpa using HJ3.out),hA3,hB3⟩,rfl⟩)
      case measure=>simp [intOf]
     ·have HJ3:=Lib.hid hJx3
      clear hJx3
      gi_wp2
      refine bodyPost_ret (results_none rfl _ _ _) rfl ?_
      exact ⟨⟨_,rfl⟩,.inr ⟨_,by simp [four],HJ3.out⟩⟩
    ·have hi:=pick2_1 t.1 t.2
     obtain ⟨fn,tmps,assign,body,hy,hR⟩:=hY ([(s.1,t.1),(s.1,t.2)]++[(s.2,t.1)]) (s.2,t.2) wr (by simpa using HJ2.out) (by simp)
     dsimp only [enc2] at hy
     gi_wp2
     refine hR.mono ?_
     rintro e W3 (⟨rfl,hJ3,hk3⟩ | ⟨rfl,hJx3⟩)
     ·have HJ3:=Lib.hid hJ3
      have hA3:=hk3.1.trans hA2
      have hB3:=hk3.2.trans hB2
      clear hJ3 hk3 hA2 hB2
      gi_wp2
      go_roundw
      case rel=>first | exact ⟨2,by omega,rfl,Lib.hid (by simpa using HJ3.out),hA3,hB3⟩ | ((repeat apply Exists.intro);exact ⟨⟨2,by omega,rfl,Lib.hid (by simpa using HJ3.out),hA3,hB3⟩,rfl⟩)
      case measure=>simp [intOf]
     ·have HJ3:=Lib.hid hJx3
      clear hJx3
      gi_wp2
      refine bodyPost_ret (results_none rfl _ _ _) rfl ?_
      exact ⟨⟨_,rfl⟩,.inr ⟨_,by simp [four],HJ3.out⟩⟩
    ·gi_wp2
     go_roundw
     case rel=>exact ⟨2,by omega,rfl,Lib.hid (by simpa [four] using HJ2.out),hA2,hB2⟩
     case measure=>simp [intOf]
  ·gi_wp2
   go_end0
   exact ⟨⟨_,rfl⟩,.inl ⟨_,rfl,by simpa [four] using HJ.out⟩⟩

theorem keeps_of_below {W W':World} (h:Below W.heap.size W W'):KeepsOthers W W' :=
 ⟨h.size,fun k _ hk _=>(h.block k (lt_of_block hk)).trans hk⟩
theorem block_kept {W W':World} {k:Nat} {c:Array Value} {t:TypeId} {f:Nat×Nat} {row:Option Nat} (h:W.heap[k]?=some (.cells c t f)) (hg:W.grownBy W' row) (hr:∀r,row=some r->∃o:Obj,W.heap[r]?=some o/\o.isCells=false):W'.heap[k]?=some (.cells c t f):=by
 rw [hg.block k (lt_of_block h) ?_]
 ·exact h
 ·intro e
  obtain ⟨o,ho,hc⟩:=hr k e.symm
  rw [h] at ho
  cases ho
  cases hc

/-- What take leaves: the two ends and the mark, all else as it was. -/
structure Took (w w':World) (Bm Be:Nat) (x y:Int):Prop where
 keep:KeepsOthers w w'
 bel:∀n,n<=Bm->n<=Be->Below n w w'
 bm:w'.heap[Bm]?=some (.cells #[.bool true] 4 (0,0))
 be:w'.heap[Be]?=some (.cells #[.int .i64 x,.int .i64 y] 50 (0,0))
 oth:∀k,k≠Bm->k≠Be->w'.heap[k]?=w.heap[k]?

theorem took_mark {w w1:World} {Bm Be:Nat} {m:Bool} {x y:Int} (hne:Bm≠Be) (hm:w1.heap[Bm]?=some (.cells #[.bool m] 4 (0,0))) (he:w1.heap[Be]?=some (.cells #[.int .i64 x,.int .i64 y] 50 (0,0)))
  (keep:KeepsOthers w w1) (bel:∀n,n<=Bm->n<=Be->Below n w w1) (oth:∀k,k≠Bm->k≠Be->w1.heap[k]?=w.heap[k]?):Took w (w1.setCell ⟨Bm,0,none⟩ (.bool true)) Bm Be x y where
 keep:=keep.trans (KeepsOthers.setCell _ _ _)
 bel:=fun n h1 h2=>(bel n h1 h2).setCell h1 _
 bm:=by rw [heap_setCell_same _ _ _ _ _ _ hm];rfl
 be:=by rw [heap_setCell_other _ _ _ _ (by simp;omega)];exact he
 oth:=fun k h1 h2=>by rw [heap_setCell_other _ _ _ _ (by simp;omega)];exact oth k h1 h2

theorem set_end0 {w:World} {Be:Nat} {x y z:Int} (he:w.heap[Be]?=some (.cells #[.int .i64 x,.int .i64 y] 50 (0,0))):(w.setCell ⟨Be,0,none⟩ (.int .i64 z)).heap[Be]?=some (.cells #[.int .i64 z,.int .i64 y] 50 (0,0)):=by
 rw [heap_setCell_same _ _ _ _ _ _ he];rfl
theorem set_end1 {w:World} {Be:Nat} {x y z:Int} (he:w.heap[Be]?=some (.cells #[.int .i64 x,.int .i64 y] 50 (0,0))):(w.setCell ⟨Be,1,none⟩ (.int .i64 z)).heap[Be]?=some (.cells #[.int .i64 x,.int .i64 z] 50 (0,0)):=by
 rw [heap_setCell_same _ _ _ _ _ _ he];rfl
theorem oth_set {w:World} {B i k:Nat} {v:Value} (h:k≠B):(w.setCell ⟨B,i,none⟩ v).heap[k]?=w.heap[k]?:=heap_setCell_other _ _ _ _ (by simp;omega)

set_option maxHeartbeats 1000000 in
theorem span_take (lo hi x y:Int) (m:Bool) (w:World) (Bm Be:Nat) (hne:Bm≠Be) (hm:w.heap[Bm]?=some (.cells #[.bool m] 4 (0,0))) (he:w.heap[Be]?=some (.cells #[.int .i64 x,.int .i64 y] 50 (0,0))) :
  Calls Tryz.prog 96 #[.int .i64 lo,.int .i64 hi,.pointer (some ⟨Bm,0,none⟩),.pointer (some ⟨Be,0,none⟩)] w fun e w'=>(∃v,e=.returned v)/\Took w w' Bm Be (if m=false∨lo<x then lo else x) (if m=false∨y<hi then hi else y):=by
 have cm:=cell_of_one hm
 have fm:=free_of_one hm
 have c0:=cell_two0 he
 have c1:=cell_two1 he
 have f0:=free_two (i:=0) he
 have f1:=free_two (i:=1) he
 have lm:=lt_of_block hm
 have le:=lt_of_block he
 have Hm:=Lib.hid hm
 have He:=Lib.hid he
 clear hm he
 have hm0:∀i v,(w.setCell ⟨Be,i,none⟩ v).heap[Bm]?=some (.cells #[.bool m] 4 (0,0)):=fun i v=>by rw [oth_set hne];exact Hm.out
 have hm1:∀i v j u,((w.setCell ⟨Be,i,none⟩ v).setCell ⟨Be,j,none⟩ u).heap[Bm]?=some (.cells #[.bool m] 4 (0,0)):=fun i v j u=>by rw [oth_set hne,oth_set hne];exact Hm.out
 have HM0:=Lib.hid hm0
 have HM1:=Lib.hid hm1
 have hne2:¬Be=Bm:=fun h=>hne h.symm
 clear hm0 hm1
 cases m
 ·rw [if_pos (Or.inl rfl),if_pos (Or.inl rfl)]
  go_enter Tryz.func96,Tryz.ntmps96
  go_wp2
  go_end0
  exact ⟨⟨_,rfl⟩,took_mark hne (HM1.out _ _ _ _) (set_end1 (set_end0 He.out)) ((KeepsOthers.setCell _ _ _).trans (KeepsOthers.setCell _ _ _)) (fun n h1 h2=>((Below.refl n w).setCell h2 _).setCell h2 _) (fun k h1 h2=>by rw [oth_set h2,oth_set h2])⟩
 ·by_cases h1:lo<x
  ·rw [if_pos (Or.inr h1)]
   by_cases h2:y<hi
   ·rw [if_pos (Or.inr h2)]
    go_enter Tryz.func96,Tryz.ntmps96
    go_wp2
    go_end0
    exact ⟨⟨_,rfl⟩,took_mark hne (HM1.out _ _ _ _) (set_end1 (set_end0 He.out)) ((KeepsOthers.setCell _ _ _).trans (KeepsOthers.setCell _ _ _)) (fun n h1 h2=>((Below.refl n w).setCell h2 _).setCell h2 _) (fun k h1 h2=>by rw [oth_set h2,oth_set h2])⟩
   ·rw [if_neg (by simp;omega)]
    go_enter Tryz.func96,Tryz.ntmps96
    go_wp2
    go_end0
    exact ⟨⟨_,rfl⟩,took_mark hne (HM0.out _ _) (set_end0 He.out) (KeepsOthers.setCell _ _ _) (fun n h1 h2=>(Below.refl n w).setCell h2 _) (fun k h1 h2=>by rw [oth_set h2])⟩
  ·rw [if_neg (by simp;omega)]
   by_cases h2:y<hi
   ·rw [if_pos (Or.inr h2)]
    go_enter Tryz.func96,Tryz.ntmps96
    go_wp2
    go_end0
    exact ⟨⟨_,rfl⟩,took_mark hne (HM0.out _ _) (set_end1 He.out) (KeepsOthers.setCell _ _ _) (fun n h1 h2=>(Below.refl n w).setCell h2 _) (fun k h1 h2=>by rw [oth_set h2])⟩
   ·rw [if_neg (by simp;omega)]
    go_enter Tryz.func96,Tryz.ntmps96
    go_wp2
    go_end0
    exact ⟨⟨_,rfl⟩,took_mark hne Hm.out He.out (KeepsOthers.refl _) (fun n h1 h2=>Below.refl n w) (fun k h1 h2=>rfl)⟩


/-- One step of between: the mark, the least and the greatest so far. -/
def btStep (D U:Int->Int->Int×Int) (a:Bool×Int×Int) (x:Int×Int):Bool×Int×Int :=
 (true,if a.1=false∨(D x.1 x.2).1<a.2.1 then (D x.1 x.2).1 else a.2.1,if a.1=false∨a.2.2<(U x.1 x.2).1 then (U x.1 x.2).1 else a.2.2)
def btAcc (D U:Int->Int->Int×Int) (l:List (Int×Int)):Bool×Int×Int:=l.foldl (btStep D U) (false,0,0)
theorem btAcc_snoc (D U:Int->Int->Int×Int) (l:List (Int×Int)) (x:Int×Int):btAcc D U (l++[x])=btStep D U (btAcc D U l) x:=by simp [btAcc]
theorem btAcc_four (D U:Int->Int->Int×Int) (s t:Int×Int):sT (btAcc D U (four s t)).2.1 (btAcc D U (four s t)).2.2=sT (min4 (D s.1 t.1).1 (D s.1 t.2).1 (D s.2 t.1).1 (D s.2 t.2).1) (max4 (U s.1 t.1).1 (U s.1 t.2).1 (U s.2 t.1).1 (U s.2 t.2).1):=by
 have e1:(btAcc D U (four s t)).2.1=min4 (D s.1 t.1).1 (D s.1 t.2).1 (D s.2 t.1).1 (D s.2 t.2).1:=by
  simp only [btAcc,four,List.foldl,btStep,min4,true_or,if_true,Bool.true_eq_false,false_or]
  generalize (D s.1 t.1).1=a
  generalize (D s.1 t.2).1=b
  generalize (D s.2 t.1).1=c
  generalize (D s.2 t.2).1=d
  split<;>split<;>split<;>omega
 have e2:(btAcc D U (four s t)).2.2=max4 (U s.1 t.1).1 (U s.1 t.2).1 (U s.2 t.1).1 (U s.2 t.2).1:=by
  simp only [btAcc,four,List.foldl,btStep,max4,true_or,if_true,Bool.true_eq_false,false_or]
  generalize (U s.1 t.1).1=a
  generalize (U s.1 t.2).1=b
  generalize (U s.2 t.1).1=c
  generalize (U s.2 t.2).1=d
  split<;>split<;>split<;>omega
 rw [e1,e2]
def BtOk (D U:Int->Int->Int×Int) (x:Int×Int):Prop:=(D x.1 x.2).2=0/\(U x.1 x.2).2=0
theorem btw_yes {D U:Int->Int->Int×Int} {s t:Int×Int} (h:∀x∈four s t,BtOk D U x):btw D U s t=sT (btAcc D U (four s t)).2.1 (btAcc D U (four s t)).2.2:=by
 rw [btAcc_four,btw,if_pos]
 exact ⟨h (s.1,t.1) (by simp [four]),h (s.1,t.2) (by simp [four]),h (s.2,t.1) (by simp [four]),h (s.2,t.2) (by simp [four])⟩
theorem btw_no {D U:Int->Int->Int×Int} {s t:Int×Int} {x:Int×Int} (hx:x∈four s t) (h:¬BtOk D U x):btw D U s t=((0,0),6):=by
 rw [btw,if_neg]
 rintro ⟨h1,h2,h3,h4⟩
 apply h
 simp only [four,List.mem_cons,List.not_mem_nil,or_false] at hx
 rcases hx with rfl | rfl | rfl | rfl
 ·exact h1
 ·exact h2
 ·exact h3
 ·exact h4

/-- The boxes of between. -/
structure BtB (w W:World) (fd fu:FuncId) (r0 r1 re:Int) (a:Bool×Int×Int):Prop where
 bel:Below w.heap.size w W
 sz:w.heap.size+10<=W.heap.size
 k2:W.heap[w.heap.size+1+1]?=some (.cells #[.func (.func fd) #[] #[],.func (.func fu) #[] #[]] 105 (0,0))
 k3:W.heap[w.heap.size+1+1+1]?=some (.cells #[.int .i64 r0,.int .i64 r1] 31 (0,0))
 k4:W.heap[w.heap.size+1+1+1+1]?=some (.cells #[.int .i64 re] 38 (0,0))
 k5:W.heap[w.heap.size+1+1+1+1+1]?=some (.cells #[.int .i64 a.2.1,.int .i64 a.2.2] 50 (0,0))
 k6:W.heap[w.heap.size+1+1+1+1+1+1]?=some (.cells #[.bool a.1] 4 (0,0))
 k7:W.heap[w.heap.size+1+1+1+1+1+1+1]?=some (.cells #[.func (.func 96) #[] #[.pointer (some ⟨w.heap.size+1+1+1+1+1+1,0,none⟩),.pointer (some ⟨w.heap.size+1+1+1+1+1,0,none⟩)]] 118 (0,0))
theorem BtB.on {w W W':World} {fd fu:FuncId} {r0 r1 re:Int} {a:Bool×Int×Int} (h:BtB w W fd fu r0 r1 re a) (k:Below W.heap.size W W'):BtB w W' fd fu r0 r1 re a :=
 ⟨below_step h.bel k,Nat.le_trans h.sz k.size,(k.block _ (lt_of_block h.k2)).trans h.k2,(k.block _ (lt_of_block h.k3)).trans h.k3,(k.block _ (lt_of_block h.k4)).trans h.k4,(k.block _ (lt_of_block h.k5)).trans h.k5,(k.block _ (lt_of_block h.k6)).trans h.k6,(k.block _ (lt_of_block h.k7)).trans h.k7⟩
theorem BtB.grown {w W W':World} {fd fu:FuncId} {r0 r1 re:Int} {a:Bool×Int×Int} {row:Option Nat} {B:Nat} (h:BtB w W fd fu r0 r1 re a) (hB:w.heap.size<=B) (hg:W.grownBy W' row) (hr:∀r,row=some r->B<=r/\∃o:Obj,W.heap[r]?=some o/\o.isCells=false):BtB w W' fd fu r0 r1 re a :=
 have hr':=fun r e=>(hr r e).2
 ⟨h.bel.grown hg h.bel.size (fun k e=>Nat.le_trans hB (hr k e).1),Nat.le_trans h.sz hg.size,block_kept h.k2 hg hr',block_kept h.k3 hg hr',block_kept h.k4 hg hr',block_kept h.k5 hg hr',block_kept h.k6 hg hr',block_kept h.k7 hg hr'⟩
theorem BtB.took {w W W':World} {fd fu:FuncId} {r0 r1 re:Int} {a:Bool×Int×Int} {x y:Int} (h:BtB w W fd fu r0 r1 re a) (k:Took W W' (w.heap.size+1+1+1+1+1+1) (w.heap.size+1+1+1+1+1) x y):BtB w W' fd fu r0 r1 re (true,x,y) :=
 ⟨h.bel.trans (k.bel _ (by omega) (by omega)),Nat.le_trans h.sz k.keep.size,(k.oth _ (by omega) (by omega)).trans h.k2,(k.oth _ (by omega) (by omega)).trans h.k3,(k.oth _ (by omega) (by omega)).trans h.k4,k.be,k.bm,(k.oth _ (by omega) (by omega)).trans h.k7⟩
theorem BtB.told {w W:World} {fd fu:FuncId} {r0 r1 re:Int} {a:Bool×Int×Int} (h:BtB w W fd fu r0 r1 re a) (x y z:Int):BtB w (((W.setCell ⟨w.heap.size+1+1+1,0,none⟩ (.int .i64 x)).setCell ⟨w.heap.size+1+1+1,1,none⟩ (.int .i64 y)).setCell ⟨w.heap.size+1+1+1+1,0,none⟩ (.int .i64 z)) fd fu x y z a :=
 ⟨((h.bel.setCell (by simp;omega) _).setCell (by simp;omega) _).setCell (by simp;omega) _,by simp;exact h.sz,
  by rw [oth_set (by omega),oth_set (by omega),oth_set (by omega)];exact h.k2,
  by rw [oth_set (by omega),heap_setCell_same _ _ _ _ _ _ (heap_setCell_same _ _ _ _ _ _ h.k3)];rfl,
  by rw [heap_setCell_same _ _ _ _ _ _ (by rw [oth_set (by omega),oth_set (by omega)];exact h.k4)];rfl,
  by rw [oth_set (by omega),oth_set (by omega),oth_set (by omega)];exact h.k5,
  by rw [oth_set (by omega),oth_set (by omega),oth_set (by omega)];exact h.k6,
  by rw [oth_set (by omega),oth_set (by omega),oth_set (by omega)];exact h.k7⟩

theorem bt_start_mul (s t:Int×Int) (w:World):BtB w ((((((((((w.alloc (.cells #[.int .i64 s.1,.int .i64 s.2] 31)).alloc (.cells #[.int .i64 t.1,.int .i64 t.2] 31)).alloc (.cells #[.func (.func 85) #[] #[],.func (.func 86) #[] #[]] 105)).alloc (.cells #[.int .i64 0,.int .i64 0] 31)).alloc (.cells #[.int .i64 0] 38)).alloc (.cells #[.int .i64 0,.int .i64 0] 50)).alloc (.cells #[.bool false] 4)).alloc (.cells #[.func (.func 96) #[] #[.pointer (some ⟨w.heap.size+1+1+1+1+1+1,0,none⟩),.pointer (some ⟨w.heap.size+1+1+1+1+1,0,none⟩)]] 118)).alloc (.cells #[.int .i64 s.1,.int .i64 s.2] 31)).alloc (.cells #[.int .i64 t.1,.int .i64 t.2] 31)) 85 86 0 0 0 (false,0,0)/\((((((((((w.alloc (.cells #[.int .i64 s.1,.int .i64 s.2] 31)).alloc (.cells #[.int .i64 t.1,.int .i64 t.2] 31)).alloc (.cells #[.func (.func 85) #[] #[],.func (.func 86) #[] #[]] 105)).alloc (.cells #[.int .i64 0,.int .i64 0] 31)).alloc (.cells #[.int .i64 0] 38)).alloc (.cells #[.int .i64 0,.int .i64 0] 50)).alloc (.cells #[.bool false] 4)).alloc (.cells #[.func (.func 96) #[] #[.pointer (some ⟨w.heap.size+1+1+1+1+1+1,0,none⟩),.pointer (some ⟨w.heap.size+1+1+1+1+1,0,none⟩)]] 118)).alloc (.cells #[.int .i64 s.1,.int .i64 s.2] 31)).alloc (.cells #[.int .i64 t.1,.int .i64 t.2] 31)).heap[w.heap.size+1+1+1+1+1+1+1+1]?=some (.cells #[.int .i64 s.1,.int .i64 s.2] 31 (0,0))/\((((((((((w.alloc (.cells #[.int .i64 s.1,.int .i64 s.2] 31)).alloc (.cells #[.int .i64 t.1,.int .i64 t.2] 31)).alloc (.cells #[.func (.func 85) #[] #[],.func (.func 86) #[] #[]] 105)).alloc (.cells #[.int .i64 0,.int .i64 0] 31)).alloc (.cells #[.int .i64 0] 38)).alloc (.cells #[.int .i64 0,.int .i64 0] 50)).alloc (.cells #[.bool false] 4)).alloc (.cells #[.func (.func 96) #[] #[.pointer (some ⟨w.heap.size+1+1+1+1+1+1,0,none⟩),.pointer (some ⟨w.heap.size+1+1+1+1+1,0,none⟩)]] 118)).alloc (.cells #[.int .i64 s.1,.int .i64 s.2] 31)).alloc (.cells #[.int .i64 t.1,.int .i64 t.2] 31)).heap[w.heap.size+1+1+1+1+1+1+1+1+1]?=some (.cells #[.int .i64 t.1,.int .i64 t.2] 31 (0,0))/\((((((((((w.alloc (.cells #[.int .i64 s.1,.int .i64 s.2] 31)).alloc (.cells #[.int .i64 t.1,.int .i64 t.2] 31)).alloc (.cells #[.func (.func 85) #[] #[],.func (.func 86) #[] #[]] 105)).alloc (.cells #[.int .i64 0,.int .i64 0] 31)).alloc (.cells #[.int .i64 0] 38)).alloc (.cells #[.int .i64 0,.int .i64 0] 50)).alloc (.cells #[.bool false] 4)).alloc (.cells #[.func (.func 96) #[] #[.pointer (some ⟨w.heap.size+1+1+1+1+1+1,0,none⟩),.pointer (some ⟨w.heap.size+1+1+1+1+1,0,none⟩)]] 118)).alloc (.cells #[.int .i64 s.1,.int .i64 s.2] 31)).alloc (.cells #[.int .i64 t.1,.int .i64 t.2] 31)).heap.size=w.heap.size+1+1+1+1+1+1+1+1+1+1 :=
 ⟨⟨below_alloc (below_alloc (below_alloc (below_alloc (below_alloc (below_alloc (below_alloc (below_alloc (below_alloc (below_alloc (Below.refl _ _) _) _) _) _) _) _) _) _) _) _,by simp,heap_up _ (heap_up _ (heap_up _ (heap_up _ (heap_up _ (heap_up _ (heap_up _ (heap_at _ (by simp)))))))),heap_up _ (heap_up _ (heap_up _ (heap_up _ (heap_up _ (heap_up _ (heap_at _ (by simp))))))),heap_up _ (heap_up _ (heap_up _ (heap_up _ (heap_up _ (heap_at _ (by simp)))))),heap_up _ (heap_up _ (heap_up _ (heap_up _ (heap_at _ (by simp))))),heap_up _ (heap_up _ (heap_up _ (heap_at _ (by simp)))),heap_up _ (heap_up _ (heap_at _ (by simp)))⟩,heap_up _ (heap_at _ (by simp)),heap_at _ (by simp),by simp⟩

theorem span_between_mul (s t:Int×Int) (w:World) :
  Calls Tryz.prog 77 #[.agg #[.int .i64 s.1,.int .i64 s.2],.agg #[.int .i64 t.1,.int .i64 t.2],.agg #[.func (.func 85) #[] #[],.func (.func 86) #[] #[]]] w fun e w'=>e=.returned (.tuple #[.agg #[.int .i64 (btw (mul false) (mul true) s t).1.1,.int .i64 (btw (mul false) (mul true) s t).1.2],.int .i64 (btw (mul false) (mul true) s t).2])/\Below w.heap.size w w':=by
 refine (callsIn_wide (n:=5)).1 ?_
 refine callsIn_of_wp_marks Tryz.func77 rfl trivial ?_ rfl
 simp only [Tryz.ntmps77,List.size_toArray,List.length_cons,List.length_nil,Nat.reduceAdd,Nat.reduceSub,Array.replicate_succ,Array.replicate_zero,List.push_toArray,List.append_toArray,List.nil_append,List.cons_append]
 gi_wp2_with (refine ⟨trivial,?_⟩;gi_at_call 97;refine (callsIn_wide.2 (span_corners s t _)).mono ?_;rintro e w' ⟨rfl,rfl⟩)
 obtain ⟨hB0,hA,hBb,hsz⟩:=bt_start_mul s t w
 generalize ((((((((((w.alloc (.cells #[.int .i64 s.1,.int .i64 s.2] 31)).alloc (.cells #[.int .i64 t.1,.int .i64 t.2] 31)).alloc (.cells #[.func (.func 85) #[] #[],.func (.func 86) #[] #[]] 105)).alloc (.cells #[.int .i64 0,.int .i64 0] 31)).alloc (.cells #[.int .i64 0] 38)).alloc (.cells #[.int .i64 0,.int .i64 0] 50)).alloc (.cells #[.bool false] 4)).alloc (.cells #[.func (.func 96) #[] #[.pointer (some ⟨w.heap.size+1+1+1+1+1+1,0,none⟩),.pointer (some ⟨w.heap.size+1+1+1+1+1,0,none⟩)]] 118)).alloc (.cells #[.int .i64 s.1,.int .i64 s.2] 31)).alloc (.cells #[.int .i64 t.1,.int .i64 t.2] 31))=W0 at *
 refine wpIn_rangeFunc_ownF rfl (by omega) (gf:=111) (lb:=#[.pointer (some ⟨w.heap.size+1+1+1+1+1+1+1+1,0,none⟩),.pointer (some ⟨w.heap.size+1+1+1+1+1+1+1+1+1,0,none⟩)]) rfl trivial (enters_of Tryz.func111 (by kernel_rfl) rfl)
  (corners_in s t _ (by omega) _ _ W0 hA hBb) KeepAB.trans
  (fun W l o o' hl ho _ _=>⟨World.putObj_heap_other (by omega),World.putObj_heap_other (by omega)⟩)
  (Below.refl _ _) (fun _=>rfl)
  (fun pre W=>BtB w W 85 86 0 0 0 (btAcc (mul false) (mul true) pre)/\∀x∈pre,BtOk (mul false) (mul true) x)
  (fun c pre W=>c=.ret/\(∃a,BtB w W 85 86 0 0 6 a)/\∃x∈pre,¬BtOk (mul false) (mul true) x)
  (fun pre W W' row hs hg hr=>⟨hs.1.grown (B:=W0.heap.size) (by omega) hg hr,hs.2⟩)
  (fun c pre W W' row hs hg hr=>⟨hs.1,hs.2.1.imp (fun a h=>h.grown (B:=W0.heap.size) (by omega) hg hr),hs.2.2⟩)
  ⟨hB0,fun _ h=>by cases h⟩
  (fun x=>{tmps:=#[.agg #[.int .i64 s.1,.int .i64 s.2],.agg #[.int .i64 t.1,.int .i64 t.2],.agg #[.func (.func 85) #[] #[],.func (.func 86) #[] #[]],.pointer (some ⟨w.heap.size,0,none⟩),.pointer (some ⟨w.heap.size+1,0,none⟩),.pointer (some ⟨w.heap.size+1+1,0,none⟩),.pointer (some ⟨w.heap.size+1+1+1,0,none⟩),.pointer (some ⟨w.heap.size+1+1+1+1,0,none⟩),.pointer (some ⟨w.heap.size+1+1+1+1+1,0,none⟩),.pointer (some ⟨w.heap.size+1+1+1+1+1+1,0,none⟩),.pointer (some ⟨w.heap.size+1+1+1+1+1+1+1,0,none⟩),.int .i64 x.1,.int .i64 x.2,undef,undef,undef,undef,.agg #[.int .i64 0,.int .i64 0],.func (.func 96) #[] #[.pointer (some ⟨w.heap.size+1+1+1+1+1+1,0,none⟩),.pointer (some ⟨w.heap.size+1+1+1+1+1,0,none⟩)],.agg #[.int .i64 s.1,.int .i64 s.2],.agg #[.int .i64 t.1,.int .i64 t.2],.func (.func 111) #[] #[.pointer (some ⟨w.heap.size+1+1+1+1+1+1+1+1,0,none⟩),.pointer (some ⟨w.heap.size+1+1+1+1+1+1+1+1+1,0,none⟩)],.int .i64 x.1,.int .i64 x.2,undef,undef,undef,undef,undef,undef,undef,undef,undef,undef,undef,undef,undef,undef,undef,undef,undef,undef,undef,undef,undef,undef,undef,undef,undef,undef,undef,undef,undef,undef,undef,undef,undef,undef],defers:=[]}) ?assign ?body ?done ?stop
 case assign =>
  intro l x W K hK
  simp only [enc2]
  gi_wp2
  exact hK
 case body =>
  rintro l pre x W ⟨hB,hok⟩ _
  have HOK:=Lib.hid hok
  clear hok hA hBb hsz hB0
  obtain ⟨⟨d,de⟩,hd⟩:∃y,y=mul false x.1 x.2:=⟨_,rfl⟩
  obtain ⟨⟨u,ue⟩,hu⟩:∃y,y=mul true x.1 x.2:=⟨_,rfl⟩
  have HD:=Lib.hid (fun W=>fix_MulDown x.1 x.2 W)
  have HU:=Lib.hid (fun W=>fix_MulUp x.1 x.2 W)
  rw [←hd] at HD
  rw [←hu] at HU
  have ED:=Lib.hid hd
  have EU:=Lib.hid hu
  clear hd hu
  by_cases h1:de=0
  ·subst h1
   by_cases h2:ue=0
   ·subst h2
    have HB:Hid (btAcc (mul false) (mul true) (pre++[x])=(true,if (btAcc (mul false) (mul true) pre).1=false∨d<(btAcc (mul false) (mul true) pre).2.1 then d else (btAcc (mul false) (mul true) pre).2.1,if (btAcc (mul false) (mul true) pre).1=false∨(btAcc (mul false) (mul true) pre).2.2<u then u else (btAcc (mul false) (mul true) pre).2.2)):=Lib.hid (by rw [btAcc_snoc,btStep,←ED.out,←EU.out])
    have HSZ:=Lib.hid hB.sz
    have c0:=cell_two0 hB.k2
    have c1:=cell_two1 hB.k2
    gi_wp2_with fail
    refine ⟨trivial,?_⟩
    refine (CallsIn.inRound l (callsIn_wide.2 (HD.out _))).mono ?_
    rintro e W1 ⟨rfl,hb1⟩
    have hB:=hB.on hb1
    clear c0 c1
    have c0:=cell_two0 hB.k2
    have c1:=cell_two1 hB.k2
    gi_wp2_with fail
    refine ⟨trivial,?_⟩
    refine (CallsIn.inRound l (callsIn_wide.2 (HU.out _))).mono ?_
    rintro e W2 ⟨rfl,hb2⟩
    have hB:=hB.on hb2
    have hb:=below_step hb1 hb2
    clear c0 c1 hb1 hb2
    have f0:=cell_of_one hB.k7
    gi_wp2_with fail
    refine ⟨trivial,?_⟩
    refine (CallsIn.inRound l (callsIn_wide.2 (span_take d u _ _ _ _ _ _ (by omega) hB.k6 hB.k5))).mono ?_
    rintro e W3 ⟨⟨v,rfl⟩,hT⟩
    gi_wp2_with fail
    refine ⟨(keeps_of_below hb).trans hT.keep,⟨(hT.oth _ (by omega) (by omega)).trans (hb.block _ (by have:=HSZ.out;omega)),(hT.oth _ (by omega) (by omega)).trans (hb.block _ (by have:=HSZ.out;omega))⟩,?_,?_⟩
    ·rw [HB.out];exact hB.took hT
    ·intro y hy
     rcases List.mem_append.1 hy with h | h
     ·exact HOK.out y h
     ·rw [List.mem_singleton] at h
      subst h
      exact ⟨by rw [←ED.out],by rw [←EU.out]⟩
   ·have h2b:(ue != 0)=true:=by simp [h2]
    have h2c:(ue==0)=false:=by simp [h2]
    have HX:Hid (¬BtOk (mul false) (mul true) x):=Lib.hid (fun h=>h2 (by have:=h.2;rw [←EU.out] at this;exact this))
    clear h2
    have HSZ:=Lib.hid hB.sz
    have c0:=cell_two0 hB.k2
    have c1:=cell_two1 hB.k2
    gi_wp2_with fail
    refine ⟨trivial,?_⟩
    refine (CallsIn.inRound l (callsIn_wide.2 (HD.out _))).mono ?_
    rintro e W1 ⟨rfl,hb1⟩
    have hB:=hB.on hb1
    clear c0 c1
    have c0:=cell_two0 hB.k2
    have c1:=cell_two1 hB.k2
    gi_wp2_with fail
    refine ⟨trivial,?_⟩
    refine (CallsIn.inRound l (callsIn_wide.2 (HU.out _))).mono ?_
    rintro e W2 ⟨rfl,hb2⟩
    have hB:=hB.on hb2
    have hb:=below_step hb1 hb2
    clear c0 c1 hb1 hb2
    have r0:=cell_two0 hB.k3
    have r1:=cell_two1 hB.k3
    have r2:=cell_of_one hB.k4
    have g0:=free_two (i:=0) hB.k3
    have g1:=free_two (i:=1) hB.k3
    have g2:=free_of_one hB.k4
    gi_wp2_with fail
    exact ⟨(keeps_of_below hb).trans (((KeepsOthers.setCell _ _ _).trans (KeepsOthers.setCell _ _ _)).trans (KeepsOthers.setCell _ _ _)),rfl,⟨_,hB.told 0 0 6⟩,x,by simp,HX.out⟩
  ·have h1b:(de != 0)=true:=by simp [h1]
   have h1c:(de==0)=false:=by simp [h1]
   have HX:Hid (¬BtOk (mul false) (mul true) x):=Lib.hid (fun h=>h1 (by have:=h.1;rw [←ED.out] at this;exact this))
   clear h1
   have HSZ:=Lib.hid hB.sz
   have c0:=cell_two0 hB.k2
   have c1:=cell_two1 hB.k2
   gi_wp2_with fail
   refine ⟨trivial,?_⟩
   refine (CallsIn.inRound l (callsIn_wide.2 (HD.out _))).mono ?_
   rintro e W1 ⟨rfl,hb1⟩
   have hB:=hB.on hb1
   clear c0 c1
   have c0:=cell_two0 hB.k2
   have c1:=cell_two1 hB.k2
   gi_wp2_with fail
   refine ⟨trivial,?_⟩
   refine (CallsIn.inRound l (callsIn_wide.2 (HU.out _))).mono ?_
   rintro e W2 ⟨rfl,hb2⟩
   have hB:=hB.on hb2
   have hb:=below_step hb1 hb2
   clear c0 c1 hb1 hb2
   have r0:=cell_two0 hB.k3
   have r1:=cell_two1 hB.k3
   have r2:=cell_of_one hB.k4
   have g0:=free_two (i:=0) hB.k3
   have g1:=free_two (i:=1) hB.k3
   have g2:=free_of_one hB.k4
   gi_wp2_with fail
   exact ⟨(keeps_of_below hb).trans (((KeepsOthers.setCell _ _ _).trans (KeepsOthers.setCell _ _ _)).trans (KeepsOthers.setCell _ _ _)),rfl,⟨_,hB.told 0 0 6⟩,x,by simp,HX.out⟩
 case done =>
  rintro D xs W hD rfl ⟨hB,hok⟩ hK
  have HV:=Lib.hid (btw_yes hok)
  have hKl:=lt_of_block hK
  have HK:=Lib.hid hK
  have HS:Hid (w.heap.size+10<=W0.heap.size):=Lib.hid (by omega)
  clear hok hK hA hBb hsz hB0
  have e0:=cell_two0 hB.k5
  have e1:=cell_two1 hB.k5
  gi_wp2_with fail
  refine ⟨trivial,?_⟩
  refine (callsIn_wide.2 (span_told _ _ _)).mono ?_
  rintro e W1 ⟨rfl,hb⟩
  rw [←HV.out]
  have hK1:=(hb.block D hKl).trans HK.out
  have HK1:=Lib.hid hK1
  have hB:=hB.on hb
  clear hb e0 e1 hK1
  have r0:=cell_two0 hB.k3
  have r1:=cell_two1 hB.k3
  have r2:=cell_of_one hB.k4
  have g0:=free_two (i:=0) hB.k3
  have g1:=free_two (i:=1) hB.k3
  have g2:=free_of_one hB.k4
  gi_wp2_with fail
  have hB2:=hB.told (btw (mul false) (mul true) s t).1.1 (btw (mul false) (mul true) s t).1.2 (btw (mul false) (mul true) s t).2
  have hK2:=(((KeepsOthers.setCell W1 ⟨w.heap.size+1+1+1,0,none⟩ (.int .i64 (btw (mul false) (mul true) s t).1.1)).trans (KeepsOthers.setCell _ ⟨w.heap.size+1+1+1,1,none⟩ (.int .i64 (btw (mul false) (mul true) s t).1.2))).trans (KeepsOthers.setCell _ ⟨w.heap.size+1+1+1+1,0,none⟩ (.int .i64 (btw (mul false) (mul true) s t).2))).same D _ HK1.out rfl
  refine ⟨by simp,.inl ⟨_,_,rfl,run_takeDeferred hK2,?_⟩⟩
  have hB3:=hB2.grown (B:=W0.heap.size) (by have:=HS.out;omega) (grownBy_putObj' _ D (.deferred none)) (fun r e=>by cases e;exact ⟨hD,_,hK2,rfl⟩)
  have q0:=cell_two0 hB3.k3
  have q1:=cell_two1 hB3.k3
  have q2:=cell_of_one hB3.k4
  refine ⟨.tuple #[.agg #[.int .i64 (btw (mul false) (mul true) s t).1.1,.int .i64 (btw (mul false) (mul true) s t).1.2],.int .i64 (btw (mul false) (mul true) s t).2],?_,rfl,hB3.bel⟩
  simp [results,Tryz.results77,go_sem,q0,q1,q2]
 case stop =>
  rintro D c pre W hD hpre ⟨rfl,⟨a,hB⟩,x,hx,hbad⟩ hK
  have HV:=Lib.hid (btw_no (hpre.subset hx) hbad)
  have HK:=Lib.hid hK
  have HS:Hid (w.heap.size+10<=W0.heap.size):=Lib.hid (by omega)
  clear hK hA hBb hB0 hsz
  gi_wp2_with fail
  refine ⟨by simp,.inl ⟨_,_,rfl,run_takeDeferred HK.out,?_⟩⟩
  have hB3:=hB.grown (B:=W0.heap.size) (by have:=HS.out;omega) (grownBy_putObj' _ D (.deferred none)) (fun r e=>by cases e;exact ⟨hD,_,HK.out,rfl⟩)
  have q0:=cell_two0 hB3.k3
  have q1:=cell_two1 hB3.k3
  have q2:=cell_of_one hB3.k4
  refine ⟨.tuple #[.agg #[.int .i64 0,.int .i64 0],.int .i64 6],?_,ret_sp HV.out,hB3.bel⟩
  simp [results,Tryz.results77,go_sem,q0,q1,q2]

theorem bt_start_div (s t:Int×Int) (w:World):BtB w ((((((((((w.alloc (.cells #[.int .i64 s.1,.int .i64 s.2] 31)).alloc (.cells #[.int .i64 t.1,.int .i64 t.2] 31)).alloc (.cells #[.func (.func 78) #[] #[],.func (.func 79) #[] #[]] 105)).alloc (.cells #[.int .i64 0,.int .i64 0] 31)).alloc (.cells #[.int .i64 0] 38)).alloc (.cells #[.int .i64 0,.int .i64 0] 50)).alloc (.cells #[.bool false] 4)).alloc (.cells #[.func (.func 96) #[] #[.pointer (some ⟨w.heap.size+1+1+1+1+1+1,0,none⟩),.pointer (some ⟨w.heap.size+1+1+1+1+1,0,none⟩)]] 118)).alloc (.cells #[.int .i64 s.1,.int .i64 s.2] 31)).alloc (.cells #[.int .i64 t.1,.int .i64 t.2] 31)) 78 79 0 0 0 (false,0,0)/\((((((((((w.alloc (.cells #[.int .i64 s.1,.int .i64 s.2] 31)).alloc (.cells #[.int .i64 t.1,.int .i64 t.2] 31)).alloc (.cells #[.func (.func 78) #[] #[],.func (.func 79) #[] #[]] 105)).alloc (.cells #[.int .i64 0,.int .i64 0] 31)).alloc (.cells #[.int .i64 0] 38)).alloc (.cells #[.int .i64 0,.int .i64 0] 50)).alloc (.cells #[.bool false] 4)).alloc (.cells #[.func (.func 96) #[] #[.pointer (some ⟨w.heap.size+1+1+1+1+1+1,0,none⟩),.pointer (some ⟨w.heap.size+1+1+1+1+1,0,none⟩)]] 118)).alloc (.cells #[.int .i64 s.1,.int .i64 s.2] 31)).alloc (.cells #[.int .i64 t.1,.int .i64 t.2] 31)).heap[w.heap.size+1+1+1+1+1+1+1+1]?=some (.cells #[.int .i64 s.1,.int .i64 s.2] 31 (0,0))/\((((((((((w.alloc (.cells #[.int .i64 s.1,.int .i64 s.2] 31)).alloc (.cells #[.int .i64 t.1,.int .i64 t.2] 31)).alloc (.cells #[.func (.func 78) #[] #[],.func (.func 79) #[] #[]] 105)).alloc (.cells #[.int .i64 0,.int .i64 0] 31)).alloc (.cells #[.int .i64 0] 38)).alloc (.cells #[.int .i64 0,.int .i64 0] 50)).alloc (.cells #[.bool false] 4)).alloc (.cells #[.func (.func 96) #[] #[.pointer (some ⟨w.heap.size+1+1+1+1+1+1,0,none⟩),.pointer (some ⟨w.heap.size+1+1+1+1+1,0,none⟩)]] 118)).alloc (.cells #[.int .i64 s.1,.int .i64 s.2] 31)).alloc (.cells #[.int .i64 t.1,.int .i64 t.2] 31)).heap[w.heap.size+1+1+1+1+1+1+1+1+1]?=some (.cells #[.int .i64 t.1,.int .i64 t.2] 31 (0,0))/\((((((((((w.alloc (.cells #[.int .i64 s.1,.int .i64 s.2] 31)).alloc (.cells #[.int .i64 t.1,.int .i64 t.2] 31)).alloc (.cells #[.func (.func 78) #[] #[],.func (.func 79) #[] #[]] 105)).alloc (.cells #[.int .i64 0,.int .i64 0] 31)).alloc (.cells #[.int .i64 0] 38)).alloc (.cells #[.int .i64 0,.int .i64 0] 50)).alloc (.cells #[.bool false] 4)).alloc (.cells #[.func (.func 96) #[] #[.pointer (some ⟨w.heap.size+1+1+1+1+1+1,0,none⟩),.pointer (some ⟨w.heap.size+1+1+1+1+1,0,none⟩)]] 118)).alloc (.cells #[.int .i64 s.1,.int .i64 s.2] 31)).alloc (.cells #[.int .i64 t.1,.int .i64 t.2] 31)).heap.size=w.heap.size+1+1+1+1+1+1+1+1+1+1 :=
 ⟨⟨below_alloc (below_alloc (below_alloc (below_alloc (below_alloc (below_alloc (below_alloc (below_alloc (below_alloc (below_alloc (Below.refl _ _) _) _) _) _) _) _) _) _) _) _,by simp,heap_up _ (heap_up _ (heap_up _ (heap_up _ (heap_up _ (heap_up _ (heap_up _ (heap_at _ (by simp)))))))),heap_up _ (heap_up _ (heap_up _ (heap_up _ (heap_up _ (heap_up _ (heap_at _ (by simp))))))),heap_up _ (heap_up _ (heap_up _ (heap_up _ (heap_up _ (heap_at _ (by simp)))))),heap_up _ (heap_up _ (heap_up _ (heap_up _ (heap_at _ (by simp))))),heap_up _ (heap_up _ (heap_up _ (heap_at _ (by simp)))),heap_up _ (heap_up _ (heap_at _ (by simp)))⟩,heap_up _ (heap_at _ (by simp)),heap_at _ (by simp),by simp⟩

theorem span_between_div (s t:Int×Int) (w:World) :
  Calls Tryz.prog 77 #[.agg #[.int .i64 s.1,.int .i64 s.2],.agg #[.int .i64 t.1,.int .i64 t.2],.agg #[.func (.func 78) #[] #[],.func (.func 79) #[] #[]]] w fun e w'=>e=.returned (.tuple #[.agg #[.int .i64 (btw (dvd false) (dvd true) s t).1.1,.int .i64 (btw (dvd false) (dvd true) s t).1.2],.int .i64 (btw (dvd false) (dvd true) s t).2])/\Below w.heap.size w w':=by
 refine (callsIn_wide (n:=5)).1 ?_
 refine callsIn_of_wp_marks Tryz.func77 rfl trivial ?_ rfl
 simp only [Tryz.ntmps77,List.size_toArray,List.length_cons,List.length_nil,Nat.reduceAdd,Nat.reduceSub,Array.replicate_succ,Array.replicate_zero,List.push_toArray,List.append_toArray,List.nil_append,List.cons_append]
 gi_wp2_with (refine ⟨trivial,?_⟩;gi_at_call 97;refine (callsIn_wide.2 (span_corners s t _)).mono ?_;rintro e w' ⟨rfl,rfl⟩)
 obtain ⟨hB0,hA,hBb,hsz⟩:=bt_start_div s t w
 generalize ((((((((((w.alloc (.cells #[.int .i64 s.1,.int .i64 s.2] 31)).alloc (.cells #[.int .i64 t.1,.int .i64 t.2] 31)).alloc (.cells #[.func (.func 78) #[] #[],.func (.func 79) #[] #[]] 105)).alloc (.cells #[.int .i64 0,.int .i64 0] 31)).alloc (.cells #[.int .i64 0] 38)).alloc (.cells #[.int .i64 0,.int .i64 0] 50)).alloc (.cells #[.bool false] 4)).alloc (.cells #[.func (.func 96) #[] #[.pointer (some ⟨w.heap.size+1+1+1+1+1+1,0,none⟩),.pointer (some ⟨w.heap.size+1+1+1+1+1,0,none⟩)]] 118)).alloc (.cells #[.int .i64 s.1,.int .i64 s.2] 31)).alloc (.cells #[.int .i64 t.1,.int .i64 t.2] 31))=W0 at *
 refine wpIn_rangeFunc_ownF rfl (by omega) (gf:=111) (lb:=#[.pointer (some ⟨w.heap.size+1+1+1+1+1+1+1+1,0,none⟩),.pointer (some ⟨w.heap.size+1+1+1+1+1+1+1+1+1,0,none⟩)]) rfl trivial (enters_of Tryz.func111 (by kernel_rfl) rfl)
  (corners_in s t _ (by omega) _ _ W0 hA hBb) KeepAB.trans
  (fun W l o o' hl ho _ _=>⟨World.putObj_heap_other (by omega),World.putObj_heap_other (by omega)⟩)
  (Below.refl _ _) (fun _=>rfl)
  (fun pre W=>BtB w W 78 79 0 0 0 (btAcc (dvd false) (dvd true) pre)/\∀x∈pre,BtOk (dvd false) (dvd true) x)
  (fun c pre W=>c=.ret/\(∃a,BtB w W 78 79 0 0 6 a)/\∃x∈pre,¬BtOk (dvd false) (dvd true) x)
  (fun pre W W' row hs hg hr=>⟨hs.1.grown (B:=W0.heap.size) (by omega) hg hr,hs.2⟩)
  (fun c pre W W' row hs hg hr=>⟨hs.1,hs.2.1.imp (fun a h=>h.grown (B:=W0.heap.size) (by omega) hg hr),hs.2.2⟩)
  ⟨hB0,fun _ h=>by cases h⟩
  (fun x=>{tmps:=#[.agg #[.int .i64 s.1,.int .i64 s.2],.agg #[.int .i64 t.1,.int .i64 t.2],.agg #[.func (.func 78) #[] #[],.func (.func 79) #[] #[]],.pointer (some ⟨w.heap.size,0,none⟩),.pointer (some ⟨w.heap.size+1,0,none⟩),.pointer (some ⟨w.heap.size+1+1,0,none⟩),.pointer (some ⟨w.heap.size+1+1+1,0,none⟩),.pointer (some ⟨w.heap.size+1+1+1+1,0,none⟩),.pointer (some ⟨w.heap.size+1+1+1+1+1,0,none⟩),.pointer (some ⟨w.heap.size+1+1+1+1+1+1,0,none⟩),.pointer (some ⟨w.heap.size+1+1+1+1+1+1+1,0,none⟩),.int .i64 x.1,.int .i64 x.2,undef,undef,undef,undef,.agg #[.int .i64 0,.int .i64 0],.func (.func 96) #[] #[.pointer (some ⟨w.heap.size+1+1+1+1+1+1,0,none⟩),.pointer (some ⟨w.heap.size+1+1+1+1+1,0,none⟩)],.agg #[.int .i64 s.1,.int .i64 s.2],.agg #[.int .i64 t.1,.int .i64 t.2],.func (.func 111) #[] #[.pointer (some ⟨w.heap.size+1+1+1+1+1+1+1+1,0,none⟩),.pointer (some ⟨w.heap.size+1+1+1+1+1+1+1+1+1,0,none⟩)],.int .i64 x.1,.int .i64 x.2,undef,undef,undef,undef,undef,undef,undef,undef,undef,undef,undef,undef,undef,undef,undef,undef,undef,undef,undef,undef,undef,undef,undef,undef,undef,undef,undef,undef,undef,undef,undef,undef,undef,undef],defers:=[]}) ?assign ?body ?done ?stop
 case assign =>
  intro l x W K hK
  simp only [enc2]
  gi_wp2
  exact hK
 case body =>
  rintro l pre x W ⟨hB,hok⟩ _
  have HOK:=Lib.hid hok
  clear hok hA hBb hsz hB0
  obtain ⟨⟨d,de⟩,hd⟩:∃y,y=dvd false x.1 x.2:=⟨_,rfl⟩
  obtain ⟨⟨u,ue⟩,hu⟩:∃y,y=dvd true x.1 x.2:=⟨_,rfl⟩
  have HD:=Lib.hid (fun W=>fix_DivDown x.1 x.2 W)
  have HU:=Lib.hid (fun W=>fix_DivUp x.1 x.2 W)
  rw [←hd] at HD
  rw [←hu] at HU
  have ED:=Lib.hid hd
  have EU:=Lib.hid hu
  clear hd hu
  by_cases h1:de=0
  ·subst h1
   by_cases h2:ue=0
   ·subst h2
    have HB:Hid (btAcc (dvd false) (dvd true) (pre++[x])=(true,if (btAcc (dvd false) (dvd true) pre).1=false∨d<(btAcc (dvd false) (dvd true) pre).2.1 then d else (btAcc (dvd false) (dvd true) pre).2.1,if (btAcc (dvd false) (dvd true) pre).1=false∨(btAcc (dvd false) (dvd true) pre).2.2<u then u else (btAcc (dvd false) (dvd true) pre).2.2)):=Lib.hid (by rw [btAcc_snoc,btStep,←ED.out,←EU.out])
    have HSZ:=Lib.hid hB.sz
    have c0:=cell_two0 hB.k2
    have c1:=cell_two1 hB.k2
    gi_wp2_with fail
    refine ⟨trivial,?_⟩
    refine (CallsIn.inRound l (callsIn_wide.2 (HD.out _))).mono ?_
    rintro e W1 ⟨rfl,hb1⟩
    have hB:=hB.on hb1
    clear c0 c1
    have c0:=cell_two0 hB.k2
    have c1:=cell_two1 hB.k2
    gi_wp2_with fail
    refine ⟨trivial,?_⟩
    refine (CallsIn.inRound l (callsIn_wide.2 (HU.out _))).mono ?_
    rintro e W2 ⟨rfl,hb2⟩
    have hB:=hB.on hb2
    have hb:=below_step hb1 hb2
    clear c0 c1 hb1 hb2
    have f0:=cell_of_one hB.k7
    gi_wp2_with fail
    refine ⟨trivial,?_⟩
    refine (CallsIn.inRound l (callsIn_wide.2 (span_take d u _ _ _ _ _ _ (by omega) hB.k6 hB.k5))).mono ?_
    rintro e W3 ⟨⟨v,rfl⟩,hT⟩
    gi_wp2_with fail
    refine ⟨(keeps_of_below hb).trans hT.keep,⟨(hT.oth _ (by omega) (by omega)).trans (hb.block _ (by have:=HSZ.out;omega)),(hT.oth _ (by omega) (by omega)).trans (hb.block _ (by have:=HSZ.out;omega))⟩,?_,?_⟩
    ·rw [HB.out];exact hB.took hT
    ·intro y hy
     rcases List.mem_append.1 hy with h | h
     ·exact HOK.out y h
     ·rw [List.mem_singleton] at h
      subst h
      exact ⟨by rw [←ED.out],by rw [←EU.out]⟩
   ·have h2b:(ue != 0)=true:=by simp [h2]
    have h2c:(ue==0)=false:=by simp [h2]
    have HX:Hid (¬BtOk (dvd false) (dvd true) x):=Lib.hid (fun h=>h2 (by have:=h.2;rw [←EU.out] at this;exact this))
    clear h2
    have HSZ:=Lib.hid hB.sz
    have c0:=cell_two0 hB.k2
    have c1:=cell_two1 hB.k2
    gi_wp2_with fail
    refine ⟨trivial,?_⟩
    refine (CallsIn.inRound l (callsIn_wide.2 (HD.out _))).mono ?_
    rintro e W1 ⟨rfl,hb1⟩
    have hB:=hB.on hb1
    clear c0 c1
    have c0:=cell_two0 hB.k2
    have c1:=cell_two1 hB.k2
    gi_wp2_with fail
    refine ⟨trivial,?_⟩
    refine (CallsIn.inRound l (callsIn_wide.2 (HU.out _))).mono ?_
    rintro e W2 ⟨rfl,hb2⟩
    have hB:=hB.on hb2
    have hb:=below_step hb1 hb2
    clear c0 c1 hb1 hb2
    have r0:=cell_two0 hB.k3
    have r1:=cell_two1 hB.k3
    have r2:=cell_of_one hB.k4
    have g0:=free_two (i:=0) hB.k3
    have g1:=free_two (i:=1) hB.k3
    have g2:=free_of_one hB.k4
    gi_wp2_with fail
    exact ⟨(keeps_of_below hb).trans (((KeepsOthers.setCell _ _ _).trans (KeepsOthers.setCell _ _ _)).trans (KeepsOthers.setCell _ _ _)),rfl,⟨_,hB.told 0 0 6⟩,x,by simp,HX.out⟩
  ·have h1b:(de != 0)=true:=by simp [h1]
   have h1c:(de==0)=false:=by simp [h1]
   have HX:Hid (¬BtOk (dvd false) (dvd true) x):=Lib.hid (fun h=>h1 (by have:=h.1;rw [←ED.out] at this;exact this))
   clear h1
   have HSZ:=Lib.hid hB.sz
   have c0:=cell_two0 hB.k2
   have c1:=cell_two1 hB.k2
   gi_wp2_with fail
   refine ⟨trivial,?_⟩
   refine (CallsIn.inRound l (callsIn_wide.2 (HD.out _))).mono ?_
   rintro e W1 ⟨rfl,hb1⟩
   have hB:=hB.on hb1
   clear c0 c1
   have c0:=cell_two0 hB.k2
   have c1:=cell_two1 hB.k2
   gi_wp2_with fail
   refine ⟨trivial,?_⟩
   refine (CallsIn.inRound l (callsIn_wide.2 (HU.out _))).mono ?_
   rintro e W2 ⟨rfl,hb2⟩
   have hB:=hB.on hb2
   have hb:=below_step hb1 hb2
   clear c0 c1 hb1 hb2
   have r0:=cell_two0 hB.k3
   have r1:=cell_two1 hB.k3
   have r2:=cell_of_one hB.k4
   have g0:=free_two (i:=0) hB.k3
   have g1:=free_two (i:=1) hB.k3
   have g2:=free_of_one hB.k4
   gi_wp2_with fail
   exact ⟨(keeps_of_below hb).trans (((KeepsOthers.setCell _ _ _).trans (KeepsOthers.setCell _ _ _)).trans (KeepsOthers.setCell _ _ _)),rfl,⟨_,hB.told 0 0 6⟩,x,by simp,HX.out⟩
 case done =>
  rintro D xs W hD rfl ⟨hB,hok⟩ hK
  have HV:=Lib.hid (btw_yes hok)
  have hKl:=lt_of_block hK
  have HK:=Lib.hid hK
  have HS:Hid (w.heap.size+10<=W0.heap.size):=Lib.hid (by omega)
  clear hok hK hA hBb hsz hB0
  have e0:=cell_two0 hB.k5
  have e1:=cell_two1 hB.k5
  gi_wp2_with fail
  refine ⟨trivial,?_⟩
  refine (callsIn_wide.2 (span_told _ _ _)).mono ?_
  rintro e W1 ⟨rfl,hb⟩
  rw [←HV.out]
  have hK1:=(hb.block D hKl).trans HK.out
  have HK1:=Lib.hid hK1
  have hB:=hB.on hb
  clear hb e0 e1 hK1
  have r0:=cell_two0 hB.k3
  have r1:=cell_two1 hB.k3
  have r2:=cell_of_one hB.k4
  have g0:=free_two (i:=0) hB.k3
  have g1:=free_two (i:=1) hB.k3
  have g2:=free_of_one hB.k4
  gi_wp2_with fail
  have hB2:=hB.told (btw (dvd false) (dvd true) s t).1.1 (btw (dvd false) (dvd true) s t).1.2 (btw (dvd false) (dvd true) s t).2
  have hK2:=(((KeepsOthers.setCell W1 ⟨w.heap.size+1+1+1,0,none⟩ (.int .i64 (btw (dvd false) (dvd true) s t).1.1)).trans (KeepsOthers.setCell _ ⟨w.heap.size+1+1+1,1,none⟩ (.int .i64 (btw (dvd false) (dvd true) s t).1.2))).trans (KeepsOthers.setCell _ ⟨w.heap.size+1+1+1+1,0,none⟩ (.int .i64 (btw (dvd false) (dvd true) s t).2))).same D _ HK1.out rfl
  refine ⟨by simp,.inl ⟨_,_,rfl,run_takeDeferred hK2,?_⟩⟩
  have hB3:=hB2.grown (B:=W0.heap.size) (by have:=HS.out;omega) (grownBy_putObj' _ D (.deferred none)) (fun r e=>by cases e;exact ⟨hD,_,hK2,rfl⟩)
  have q0:=cell_two0 hB3.k3
  have q1:=cell_two1 hB3.k3
  have q2:=cell_of_one hB3.k4
  refine ⟨.tuple #[.agg #[.int .i64 (btw (dvd false) (dvd true) s t).1.1,.int .i64 (btw (dvd false) (dvd true) s t).1.2],.int .i64 (btw (dvd false) (dvd true) s t).2],?_,rfl,hB3.bel⟩
  simp [results,Tryz.results77,go_sem,q0,q1,q2]
 case stop =>
  rintro D c pre W hD hpre ⟨rfl,⟨a,hB⟩,x,hx,hbad⟩ hK
  have HV:=Lib.hid (btw_no (hpre.subset hx) hbad)
  have HK:=Lib.hid hK
  have HS:Hid (w.heap.size+10<=W0.heap.size):=Lib.hid (by omega)
  clear hK hA hBb hB0 hsz
  gi_wp2_with fail
  refine ⟨by simp,.inl ⟨_,_,rfl,run_takeDeferred HK.out,?_⟩⟩
  have hB3:=hB.grown (B:=W0.heap.size) (by have:=HS.out;omega) (grownBy_putObj' _ D (.deferred none)) (fun r e=>by cases e;exact ⟨hD,_,HK.out,rfl⟩)
  have q0:=cell_two0 hB3.k3
  have q1:=cell_two1 hB3.k3
  have q2:=cell_of_one hB3.k4
  refine ⟨.tuple #[.agg #[.int .i64 0,.int .i64 0],.int .i64 6],?_,ret_sp HV.out,hB3.bel⟩
  simp [results,Tryz.results77,go_sem,q0,q1,q2]
end Go.Proofs.YthhkcfpljgdnhaaGreat
namespace Go.Proofs.YthhkcfpljgdnhaaGreat
open Go.RowKit Mnc


set_option maxHeartbeats 1000000 in
theorem span_Mul (s t:Int×Int) (w:World) :
  Calls Tryz.prog 52 #[.agg #[.int .i64 s.1,.int .i64 s.2],.agg #[.int .i64 t.1,.int .i64 t.2]] w fun e w'=>e=.returned (.tuple #[.agg #[.int .i64 (sMul s t).1.1,.int .i64 (sMul s t).1.2],.int .i64 (sMul s t).2])/\Below w.heap.size w w':=by
 by_cases h:okS s/\okS t
 ·obtain ⟨hs,ht⟩:=h
  have HC:=Lib.hid (sChk2_ok hs ht)
  have HR:=Lib.hid (btw_mul hs ht)
  clear hs ht
  go_enter Tryz.func52,Tryz.ntmps52
  go_wp2_with fail
  refine (span_all2_box s t w).mono ?_;rintro e w2 ⟨rfl,hB⟩;rw [HC.out]
  have a0:=cell_two0 hB.b0
  have a1:=cell_two1 hB.b0
  have b0:=cell_two0 hB.b1
  have b1:=cell_two1 hB.b1
  go_wp2_with fail
  refine (span_between_mul s t _).mono ?_;rintro e w3 ⟨rfl,hbel⟩
  rw [HR.out]
  have hB:=hB.on hbel
  clear hbel a0 a1 b0 b1
  have c0:=cell_two0 hB.b2
  have c1:=cell_two1 hB.b2
  have f0:=free_two (i:=0) hB.b2
  have f1:=free_two (i:=1) hB.b2
  have l2:=lt_of_block hB.b2
  go_wp2_with fail
  exact bodyPost_ret (v:=.tuple #[.agg #[.int .i64 (sMul s t).1.1,.int .i64 (sMul s t).1.2],.int .i64 (sMul s t).2]) (by simp [results,Tryz.results52,go_sem,c0,c1]) rfl ⟨rfl,below_set2 hB.bel (by omega) _ _⟩
 ·have HC:=Lib.hid (sChk2_bad h)
  have HR:=Lib.hid (show sMul s t=((0,0),20) from on2_bad h)
  clear h
  go_enter Tryz.func52,Tryz.ntmps52
  go_wp2_with fail
  refine (span_all2_box s t w).mono ?_;rintro e w2 ⟨rfl,hB⟩;rw [HC.out]
  have c0:=cell_two0 hB.b2
  have c1:=cell_two1 hB.b2
  have f0:=free_two (i:=0) hB.b2
  have f1:=free_two (i:=1) hB.b2
  have l2:=lt_of_block hB.b2
  go_wp2_with fail
  exact bodyPost_ret (v:=.tuple #[.agg #[.int .i64 0,.int .i64 0],.int .i64 20]) (by simp [results,Tryz.results52,go_sem,c0,c1]) rfl ⟨ret_sp HR.out,below_set2 hB.bel (by omega) _ _⟩


set_option maxHeartbeats 1000000 in
theorem span_Div (s t:Int×Int) (w:World) :
  Calls Tryz.prog 44 #[.agg #[.int .i64 s.1,.int .i64 s.2],.agg #[.int .i64 t.1,.int .i64 t.2]] w fun e w'=>e=.returned (.tuple #[.agg #[.int .i64 (sDiv s t).1.1,.int .i64 (sDiv s t).1.2],.int .i64 (sDiv s t).2])/\Below w.heap.size w w':=by
 by_cases h:okS s/\okS t
 ·obtain ⟨hs,ht⟩:=h
  have HC:=Lib.hid (sChk2_ok hs ht)
  by_cases hz:t.1<=0
  ·by_cases hz2:0<=t.2
   ·have HR:=Lib.hid (show sDiv s t=((0,0),7) by have e:sDiv s t=_:=on2_ok hs ht;rw [e,if_pos ⟨hz,hz2⟩])
    clear hs ht
    go_enter Tryz.func44,Tryz.ntmps44
    go_wp2_with fail
    refine (span_all2_box s t w).mono ?_;rintro e w2 ⟨rfl,hB⟩;rw [HC.out]
    have a0:=cell_two0 hB.b0
    have a1:=cell_two1 hB.b0
    have b0:=cell_two0 hB.b1
    have b1:=cell_two1 hB.b1
    have c0:=cell_two0 hB.b2
    have c1:=cell_two1 hB.b2
    have f0:=free_two (i:=0) hB.b2
    have f1:=free_two (i:=1) hB.b2
    have l2:=lt_of_block hB.b2
    go_wp2_with fail
    exact bodyPost_ret (v:=.tuple #[.agg #[.int .i64 0,.int .i64 0],.int .i64 7]) (by simp [results,Tryz.results44,go_sem,c0,c1]) rfl ⟨ret_sp HR.out,below_set2 hB.bel (by omega) _ _⟩
   ·have HR:=Lib.hid (btw_div hs ht (fun g=>hz2 g.2))
    clear hs ht
    go_enter Tryz.func44,Tryz.ntmps44
    go_wp2_with fail
    refine (span_all2_box s t w).mono ?_;rintro e w2 ⟨rfl,hB⟩;rw [HC.out]
    have a0:=cell_two0 hB.b0
    have a1:=cell_two1 hB.b0
    have b0:=cell_two0 hB.b1
    have b1:=cell_two1 hB.b1
    go_wp2_with fail
    refine (span_between_div s t _).mono ?_;rintro e w3 ⟨rfl,hbel⟩
    rw [HR.out]
    have hB:=hB.on hbel
    clear hbel a0 a1 b0 b1
    have c0:=cell_two0 hB.b2
    have c1:=cell_two1 hB.b2
    have f0:=free_two (i:=0) hB.b2
    have f1:=free_two (i:=1) hB.b2
    have l2:=lt_of_block hB.b2
    go_wp2_with fail
    exact bodyPost_ret (v:=.tuple #[.agg #[.int .i64 (sDiv s t).1.1,.int .i64 (sDiv s t).1.2],.int .i64 (sDiv s t).2]) (by simp [results,Tryz.results44,go_sem,c0,c1]) rfl ⟨rfl,below_set2 hB.bel (by omega) _ _⟩
  ·have HR:=Lib.hid (btw_div hs ht (fun g=>hz g.1))
   clear hs ht
   go_enter Tryz.func44,Tryz.ntmps44
   go_wp2_with fail
   refine (span_all2_box s t w).mono ?_;rintro e w2 ⟨rfl,hB⟩;rw [HC.out]
   have a0:=cell_two0 hB.b0
   have a1:=cell_two1 hB.b0
   have b0:=cell_two0 hB.b1
   have b1:=cell_two1 hB.b1
   go_wp2_with fail
   refine (span_between_div s t _).mono ?_;rintro e w3 ⟨rfl,hbel⟩
   rw [HR.out]
   have hB:=hB.on hbel
   clear hbel a0 a1 b0 b1
   have c0:=cell_two0 hB.b2
   have c1:=cell_two1 hB.b2
   have f0:=free_two (i:=0) hB.b2
   have f1:=free_two (i:=1) hB.b2
   have l2:=lt_of_block hB.b2
   go_wp2_with fail
   exact bodyPost_ret (v:=.tuple #[.agg #[.int .i64 (sDiv s t).1.1,.int .i64 (sDiv s t).1.2],.int .i64 (sDiv s t).2]) (by simp [results,Tryz.results44,go_sem,c0,c1]) rfl ⟨rfl,below_set2 hB.bel (by omega) _ _⟩
 ·have HC:=Lib.hid (sChk2_bad h)
  have HR:=Lib.hid (show sDiv s t=((0,0),20) from on2_bad h)
  clear h
  go_enter Tryz.func44,Tryz.ntmps44
  go_wp2_with fail
  refine (span_all2_box s t w).mono ?_;rintro e w2 ⟨rfl,hB⟩;rw [HC.out]
  have c0:=cell_two0 hB.b2
  have c1:=cell_two1 hB.b2
  have f0:=free_two (i:=0) hB.b2
  have f1:=free_two (i:=1) hB.b2
  have l2:=lt_of_block hB.b2
  go_wp2_with fail
  exact bodyPost_ret (v:=.tuple #[.agg #[.int .i64 0,.int .i64 0],.int .i64 20]) (by simp [results,Tryz.results44,go_sem,c0,c1]) rfl ⟨ret_sp HR.out,below_set2 hB.bel (by omega) _ _⟩

end Go.Proofs.YthhkcfpljgdnhaaGreat