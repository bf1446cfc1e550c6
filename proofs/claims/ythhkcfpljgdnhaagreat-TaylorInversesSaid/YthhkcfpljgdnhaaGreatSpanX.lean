/- Contracts of package span: Check, all, told, Of, Point, Add, Sub, Neg, Abs, Min, Max, Hull, Meet, Has, Mid, Width, Sign. Printed by wip/genSA.py. -/
import Derived.Test.YthhkcfpljgdnhaaGreatFixI
import Derived.Test.YthhkcfpljgdnhaaGreatPl
import Derived.RegionTactic
import Derived.ChangeAlike
set_option maxRecDepth 100000
namespace Go.Proofs.YthhkcfpljgdnhaaGreat
open Go.RowKit Mnc

theorem below_alloc {w W:World} (h:Below w.heap.size w W) (o:Obj):Below w.heap.size w (W.alloc o):=h.alloc h.size _

set_option maxHeartbeats 400000 in
theorem span_Check (s:Int×Int) (w:World) :
  Calls Tryz.prog 62 #[.agg #[.int .i64 s.1,.int .i64 s.2]] w fun e w'=>e=.returned (.int .i64 (sChk s))/\Below w.heap.size w w':=by
 obtain ⟨lo,hi⟩:=s
 by_cases h1:lo< -4503599627370496
 ·rw [sChk_bad (by unfold okS;simp only;omega)]
  go_enter Tryz.func62,Tryz.ntmps62
  go_wp2
  go_ret
  exact ⟨rfl,below_alloc (Below.refl _ _) _⟩
 ·by_cases h2:hi<lo
  ·rw [sChk_bad (by unfold okS;simp only;omega)]
   go_enter Tryz.func62,Tryz.ntmps62
   go_wp2
   go_ret
   exact ⟨rfl,below_alloc (Below.refl _ _) _⟩
  ·by_cases h3:4503599627370496<hi
   ·rw [sChk_bad (by unfold okS;simp only;omega)]
    go_enter Tryz.func62,Tryz.ntmps62
    go_wp2
    go_ret
    exact ⟨rfl,below_alloc (Below.refl _ _) _⟩
   ·rw [sChk_ok (by unfold okS;simp only;omega)]
    go_enter Tryz.func62,Tryz.ntmps62
    go_wp2
    go_ret
    exact ⟨rfl,below_alloc (Below.refl _ _) _⟩

theorem span_Check_ok {s:Int×Int} (h:okS s) (w:World) :
  Calls Tryz.prog 62 #[.agg #[.int .i64 s.1,.int .i64 s.2]] w fun e w'=>e=.returned (.int .i64 0)/\Below w.heap.size w w':=by
 have:=span_Check s w
 rw [sChk_ok h] at this
 exact this
theorem span_Check_bad {s:Int×Int} (h:¬okS s) (w:World) :
  Calls Tryz.prog 62 #[.agg #[.int .i64 s.1,.int .i64 s.2]] w fun e w'=>e=.returned (.int .i64 20)/\Below w.heap.size w w':=by
 have:=span_Check s w
 rw [sChk_bad h] at this
 exact this

structure Four (w W:World) (B:Nat) (a b c d:Value):Prop where
 bel:Below w.heap.size w W
 lt:B<W.heap.size
 c0:W.cell? ⟨B,0,none⟩=some a
 c1:W.cell? ⟨B,1,none⟩=some b
 c2:W.cell? ⟨B,2,none⟩=some c
 c3:W.cell? ⟨B,3,none⟩=some d
theorem Four.on {w W W':World} {B:Nat} {a b c d:Value} (h:Four w W B a b c d) (k:Below W.heap.size W W'):Four w W' B a b c d :=
 ⟨below_step h.bel k,Nat.lt_of_lt_of_le h.lt k.size,(k.cell (p:=⟨B,0,none⟩) h.lt).trans h.c0,(k.cell (p:=⟨B,1,none⟩) h.lt).trans h.c1,(k.cell (p:=⟨B,2,none⟩) h.lt).trans h.c2,(k.cell (p:=⟨B,3,none⟩) h.lt).trans h.c3⟩

set_option maxHeartbeats 1000000 in
theorem span_all2 (s t:Int×Int) (w W:World) (B:Nat) (h:Four w W B (.int .i64 s.1) (.int .i64 s.2) (.int .i64 t.1) (.int .i64 t.2)) :
  Calls Tryz.prog 76 #[.slice (some ⟨B,0,none⟩) 2 2] W fun e w'=>e=.returned (.int .i64 (sChk2 s t))/\Below w.heap.size w w':=by
 go_enter Tryz.func76,Tryz.ntmps76
 go_wp2
 go_loopw [8] (fun i wr=>∃k:Nat,k<=2/\i=.int .i64 k/\(1<=k->okS s)/\(2<=k->okS t)/\Hid (Four w wr B (.int .i64 s.1) (.int .i64 s.2) (.int .i64 t.1) (.int .i64 t.2))) (fun i _=>2-(intOf i).toNat)
 case atStart=>exact ⟨0,by omega,rfl,by omega,by omega,Lib.hid h⟩
 case round =>
  obtain ⟨k,hk,rfl,ha,hb,HF⟩:=hrel
  have hc0:=HF.out.c0
  have hc1:=HF.out.c1
  have hc2:=HF.out.c2
  have hc3:=HF.out.c3
  rcases (by omega:k=0∨k=1∨k=2) with rfl | rfl | rfl
  ·by_cases hs:okS s
   ·have H:=Lib.hid hs
    clear hs ha hb
    go_wp2_with fail
    refine (span_Check_ok H.out _).mono ?_;rintro e w2 ⟨rfl,hbel⟩
    have HF2:=Lib.hid (HF.out.on (below_step (below_alloc (Below.refl _ _) _) hbel))
    clear hbel hc0 hc1 hc2 hc3
    go_wp2_with fail
    go_roundw
    case rel=>exact ⟨1,by omega,rfl,fun _=>H.out,by omega,HF2⟩
    case measure=>simp [intOf]
   ·have H:=Lib.hid hs
    clear hs ha hb
    go_wp2_with fail
    refine (span_Check_bad H.out _).mono ?_;rintro e w2 ⟨rfl,hbel⟩
    have HF2:=Lib.hid (HF.out.on (below_step (below_alloc (Below.refl _ _) _) hbel))
    clear hbel hc0 hc1 hc2 hc3
    go_wp2_with fail
    go_ret
    exact ⟨ret_int (sChk2_bad (fun g=>H.out g.1)).symm,HF2.out.bel⟩
  ·by_cases hs:okS t
   ·have H:=Lib.hid hs
    have HA:=Lib.hid (ha (by omega))
    clear hs ha hb
    go_wp2_with fail
    refine (span_Check_ok H.out _).mono ?_;rintro e w2 ⟨rfl,hbel⟩
    have HF2:=Lib.hid (HF.out.on (below_step (below_alloc (Below.refl _ _) _) hbel))
    clear hbel hc0 hc1 hc2 hc3
    go_wp2_with fail
    go_roundw
    case rel=>exact ⟨2,by omega,rfl,fun _=>HA.out,fun _=>H.out,HF2⟩
    case measure=>simp [intOf]
   ·have H:=Lib.hid hs
    clear hs ha hb
    go_wp2_with fail
    refine (span_Check_bad H.out _).mono ?_;rintro e w2 ⟨rfl,hbel⟩
    have HF2:=Lib.hid (HF.out.on (below_step (below_alloc (Below.refl _ _) _) hbel))
    clear hbel hc0 hc1 hc2 hc3
    go_wp2_with fail
    go_ret
    exact ⟨ret_int (sChk2_bad (fun g=>H.out g.2)).symm,HF2.out.bel⟩
  ·have HA:=Lib.hid (ha (by omega))
   have HB:=Lib.hid (hb (by omega))
   clear ha hb
   go_wp2
   go_ret
   exact ⟨ret_int (sChk2_ok HA.out HB.out).symm,HF.out.bel⟩

theorem ret_sp {k:IntKind} {a b c:Int} {p:(Int×Int)×Int} (h:p=((a,b),c)):Ending.returned (.tuple #[.agg #[.int k a,.int k b],.int k c])=.returned (.tuple #[.agg #[.int k p.1.1,.int k p.1.2],.int k p.2]):=by rw [h]

set_option maxHeartbeats 1000000 in
theorem span_told (lo hi:Int) (w:World) :
  Calls Tryz.prog 75 #[.int .i64 lo,.int .i64 hi] w fun e w'=>e=.returned (.tuple #[.agg #[.int .i64 (sT lo hi).1.1,.int .i64 (sT lo hi).1.2],.int .i64 (sT lo hi).2])/\Below w.heap.size w w':=by
 by_cases h1:lo< -4503599627370496
 ·have HR:=Lib.hid (sT_bad (lo:=lo) (hi:=hi) (by omega))
  go_enter Tryz.func75,Tryz.ntmps75
  go_wp2
  exact bodyPost_ret (v:=.tuple #[.agg #[.int .i64 0,.int .i64 0],.int .i64 6]) (by simp [results,Tryz.results75,go_sem]) rfl ⟨ret_sp HR.out,below_alloc (Below.refl _ _) _⟩
 ·by_cases h2:4503599627370496<hi
  ·have HR:=Lib.hid (sT_bad (lo:=lo) (hi:=hi) (by omega))
   go_enter Tryz.func75,Tryz.ntmps75
   go_wp2
   exact bodyPost_ret (v:=.tuple #[.agg #[.int .i64 0,.int .i64 0],.int .i64 6]) (by simp [results,Tryz.results75,go_sem]) rfl ⟨ret_sp HR.out,below_alloc (Below.refl _ _) _⟩
  ·have HR:=Lib.hid (sT_ok (lo:=lo) (hi:=hi) (by omega) (by omega))
   go_enter Tryz.func75,Tryz.ntmps75
   go_wp2
   exact bodyPost_ret (v:=.tuple #[.agg #[.int .i64 lo,.int .i64 hi],.int .i64 0]) (by simp [results,Tryz.results75,go_sem]) rfl ⟨ret_sp HR.out,below_alloc (Below.refl _ _) _⟩


/-- The two operands and the result in their boxes. -/
structure Bx3 (w W:World) (s t r:Int×Int):Prop where
 bel:Below w.heap.size w W
 b0:W.heap[w.heap.size]?=some (.cells #[.int .i64 s.1,.int .i64 s.2] 31 (0,0))
 b1:W.heap[w.heap.size+1]?=some (.cells #[.int .i64 t.1,.int .i64 t.2] 31 (0,0))
 b2:W.heap[w.heap.size+1+1]?=some (.cells #[.int .i64 r.1,.int .i64 r.2] 31 (0,0))
theorem Bx3.on {w W W':World} {s t r:Int×Int} (h:Bx3 w W s t r) (k:Below W.heap.size W W'):Bx3 w W' s t r :=
 ⟨below_step h.bel k,(k.block _ (lt_of_block h.b0)).trans h.b0,(k.block _ (lt_of_block h.b1)).trans h.b1,(k.block _ (lt_of_block h.b2)).trans h.b2⟩

theorem heap_at {w:World} {n:Nat} (o:Obj) (h:w.heap.size=n):(w.alloc o).heap[n]?=some o:=by
 rw [←h];exact heap_alloc_new w o
theorem heap_up {w:World} {n:Nat} {o:Obj} (o':Obj) (h:w.heap[n]?=some o):(w.alloc o').heap[n]?=some o:=by
 rw [Below.heap_alloc _ _ _ (lt_of_block h)];exact h

theorem Bx3.start (w:World) (s t:Int×Int):Bx3 w (((w.alloc (.cells #[.int .i64 s.1,.int .i64 s.2] 31)).alloc (.cells #[.int .i64 t.1,.int .i64 t.2] 31)).alloc (.cells #[.int .i64 0,.int .i64 0] 31)) s t (0,0) where
 bel:=below_alloc (below_alloc (below_alloc (Below.refl _ _) _) _) _
 b0:=heap_up _ (heap_up _ (heap_at _ rfl))
 b1:=heap_up _ (heap_at _ (by simp))
 b2:=heap_at _ (by simp)

theorem cell_four {w:World} {n:Nat} {a b c d:Value} {t:TypeId} (h:w.heap[n]?=some (.cells #[a,b,c,d] t (0,0))):w.cell? ⟨n,0,none⟩=some a/\w.cell? ⟨n,1,none⟩=some b/\w.cell? ⟨n,2,none⟩=some c/\w.cell? ⟨n,3,none⟩=some d:=by
 simp [World.cell?,h]

theorem span_all2_box (s t:Int×Int) (w:World) :
  Calls Tryz.prog 76 #[.slice (some ⟨w.heap.size+1+1+1,0,none⟩) 2 2] ((((w.alloc (.cells #[.int .i64 s.1,.int .i64 s.2] 31)).alloc (.cells #[.int .i64 t.1,.int .i64 t.2] 31)).alloc (.cells #[.int .i64 0,.int .i64 0] 31)).alloc (.cells #[.int .i64 s.1,.int .i64 s.2,.int .i64 t.1,.int .i64 t.2] 31)) fun e w'=>e=.returned (.int .i64 (sChk2 s t))/\Bx3 w w' s t (0,0):=by
 have hB:=Bx3.start w s t
 have hz:(((w.alloc (.cells #[.int .i64 s.1,.int .i64 s.2] 31)).alloc (.cells #[.int .i64 t.1,.int .i64 t.2] 31)).alloc (.cells #[.int .i64 0,.int .i64 0] 31)).heap.size=w.heap.size+1+1+1:=by simp
 generalize (((w.alloc (.cells #[.int .i64 s.1,.int .i64 s.2] 31)).alloc (.cells #[.int .i64 t.1,.int .i64 t.2] 31)).alloc (.cells #[.int .i64 0,.int .i64 0] 31))=W3 at *
 have hb:=heap_at (.cells #[.int .i64 s.1,.int .i64 s.2,.int .i64 t.1,.int .i64 t.2] 31) hz
 have hB:=hB.on (below_alloc (Below.refl _ _) (.cells #[.int .i64 s.1,.int .i64 s.2,.int .i64 t.1,.int .i64 t.2] 31))
 generalize W3.alloc (.cells #[.int .i64 s.1,.int .i64 s.2,.int .i64 t.1,.int .i64 t.2] 31)=W4 at *
 obtain ⟨c0,c1,c2,c3⟩:=cell_four hb
 refine (span_all2 s t W4 W4 _ ⟨Below.refl _ _,lt_of_block hb,c0,c1,c2,c3⟩).mono ?_
 rintro e w' ⟨rfl,hbel⟩
 exact ⟨rfl,hB.on hbel⟩

theorem below_set2 {w W:World} {b:Nat} (h:Below w.heap.size w W) (hb:w.heap.size<=b) (u v:Value):Below w.heap.size w ((W.setCell ⟨b,0,none⟩ u).setCell ⟨b,1,none⟩ v):=(h.setCell hb _).setCell hb _


set_option maxHeartbeats 1000000 in
theorem span_Add (s t:Int×Int) (w:World) :
  Calls Tryz.prog 43 #[.agg #[.int .i64 s.1,.int .i64 s.2],.agg #[.int .i64 t.1,.int .i64 t.2]] w fun e w'=>e=.returned (.tuple #[.agg #[.int .i64 (sAdd s t).1.1,.int .i64 (sAdd s t).1.2],.int .i64 (sAdd s t).2])/\Below w.heap.size w w':=by
 by_cases h:okS s/\okS t
 ·obtain ⟨hs,ht⟩:=h
  have HC:=Lib.hid (sChk2_ok hs ht)
  have HR:=Lib.hid (show sAdd s t=sT (s.1+t.1) (s.2+t.2) from on2_ok hs ht)
  obtain ⟨s1,s2,s3⟩:=hs
  obtain ⟨t1,t2,t3⟩:=ht
  go_enter Tryz.func43,Tryz.ntmps43
  go_wp2_with fail
  refine (span_all2_box s t w).mono ?_;rintro e w2 ⟨rfl,hB⟩;rw [HC.out]
  have a0:=cell_two0 hB.b0
  have a1:=cell_two1 hB.b0
  have b0:=cell_two0 hB.b1
  have b1:=cell_two1 hB.b1
  go_wp2_with fail
  refine (span_told _ _ _).mono ?_;rintro e w3 ⟨rfl,hbel⟩
  rw [←HR.out]
  have hB:=hB.on hbel
  clear hbel a0 a1 b0 b1
  have c0:=cell_two0 hB.b2
  have c1:=cell_two1 hB.b2
  have f0:=free_two (i:=0) hB.b2
  have f1:=free_two (i:=1) hB.b2
  have l2:=lt_of_block hB.b2
  go_wp2_with fail
  exact bodyPost_ret (v:=.tuple #[.agg #[.int .i64 (sAdd s t).1.1,.int .i64 (sAdd s t).1.2],.int .i64 (sAdd s t).2]) (by simp [results,Tryz.results43,go_sem,c0,c1]) rfl ⟨rfl,below_set2 hB.bel (by omega) _ _⟩
 ·have HC:=Lib.hid (sChk2_bad h)
  have HR:=Lib.hid (show sAdd s t=((0,0),20) from on2_bad h)
  clear h
  go_enter Tryz.func43,Tryz.ntmps43
  go_wp2_with fail
  refine (span_all2_box s t w).mono ?_;rintro e w2 ⟨rfl,hB⟩;rw [HC.out]
  have c0:=cell_two0 hB.b2
  have c1:=cell_two1 hB.b2
  have f0:=free_two (i:=0) hB.b2
  have f1:=free_two (i:=1) hB.b2
  have l2:=lt_of_block hB.b2
  go_wp2_with fail
  exact bodyPost_ret (v:=.tuple #[.agg #[.int .i64 0,.int .i64 0],.int .i64 20]) (by simp [results,Tryz.results43,go_sem,c0,c1]) rfl ⟨ret_sp HR.out,below_set2 hB.bel (by omega) _ _⟩



/-- The operand and the result in their boxes. -/
structure Bx2 (w W:World) (s r:Int×Int):Prop where
 bel:Below w.heap.size w W
 b0:W.heap[w.heap.size]?=some (.cells #[.int .i64 s.1,.int .i64 s.2] 31 (0,0))
 b1:W.heap[w.heap.size+1]?=some (.cells #[.int .i64 r.1,.int .i64 r.2] 31 (0,0))
theorem Bx2.on {w W W':World} {s r:Int×Int} (h:Bx2 w W s r) (k:Below W.heap.size W W'):Bx2 w W' s r :=
 ⟨below_step h.bel k,(k.block _ (lt_of_block h.b0)).trans h.b0,(k.block _ (lt_of_block h.b1)).trans h.b1⟩
theorem Bx2.start (w:World) (s r:Int×Int):Bx2 w ((w.alloc (.cells #[.int .i64 s.1,.int .i64 s.2] 31)).alloc (.cells #[.int .i64 r.1,.int .i64 r.2] 31)) s r where
 bel:=below_alloc (below_alloc (Below.refl _ _) _) _
 b0:=heap_up _ (heap_at _ rfl)
 b1:=heap_at _ (by simp)
structure Bx1 (w W:World) (s:Int×Int):Prop where
 bel:Below w.heap.size w W
 b0:W.heap[w.heap.size]?=some (.cells #[.int .i64 s.1,.int .i64 s.2] 31 (0,0))
theorem Bx1.on {w W W':World} {s:Int×Int} (h:Bx1 w W s) (k:Below W.heap.size W W'):Bx1 w W' s :=
 ⟨below_step h.bel k,(k.block _ (lt_of_block h.b0)).trans h.b0⟩
theorem Bx1.start (w:World) (s:Int×Int):Bx1 w (w.alloc (.cells #[.int .i64 s.1,.int .i64 s.2] 31)) s where
 bel:=below_alloc (Below.refl _ _) _
 b0:=heap_at _ rfl


set_option maxHeartbeats 1000000 in
theorem span_Abs (s:Int×Int) (w:World) :
  Calls Tryz.prog 73 #[.agg #[.int .i64 s.1,.int .i64 s.2]] w fun e w'=>e=.returned (.tuple #[.agg #[.int .i64 (sAbs s).1.1,.int .i64 (sAbs s).1.2],.int .i64 (sAbs s).2])/\Below w.heap.size w w':=by
 have hB:=Bx2.start w s (0,0)
 by_cases hs:okS s
 ·have H:=Lib.hid hs
  have HR:=Lib.hid (show sAbs s=sT (max (max s.1 (-s.2)) 0) (max s.2 (-s.1)) from (on1_ok hs).trans (sT_ok (by obtain ⟨s1,s2,s3⟩:=hs;omega) (by obtain ⟨s1,s2,s3⟩:=hs;omega)).symm)
  have key:∀X,X=max (max s.1 (-s.2)) 0->sT X (max s.2 (-s.1))=sAbs s:=by rintro X rfl;exact HR.out.symm
  obtain ⟨s1,s2,s3⟩:=hs
  have key:=Lib.hid key
  go_enter Tryz.func73,Tryz.ntmps73
  go_wp2_with fail
  refine (span_Check_ok H.out _).mono ?_;rintro e w2 ⟨rfl,hbel⟩
  have hB:=hB.on hbel
  clear hbel
  have a0:=cell_two0 hB.b0
  have a1:=cell_two1 hB.b0
  go_wp2_with fail
  all_goals
   refine (span_told _ _ _).mono ?_;rintro e w3 ⟨rfl,hbel⟩
   first | rw [key.out 0 (by omega)] | rw [key.out s.1 (by omega)] | rw [key.out (-s.2) (by omega)]
   have hB:=hB.on hbel
   clear hbel a0 a1
   have c0:=cell_two0 hB.b1
   have c1:=cell_two1 hB.b1
   have f0:=free_two (i:=0) hB.b1
   have f1:=free_two (i:=1) hB.b1
   have l2:=lt_of_block hB.b1
   go_wp2_with fail
   exact bodyPost_ret (v:=.tuple #[.agg #[.int .i64 (sAbs s).1.1,.int .i64 (sAbs s).1.2],.int .i64 (sAbs s).2]) (by simp [results,Tryz.results73,go_sem,c0,c1]) rfl ⟨rfl,below_set2 hB.bel (by omega) _ _⟩
 ·have H:=Lib.hid hs
  have HR:=Lib.hid (show sAbs s=((0,0),20) from on1_bad hs)
  clear hs
  go_enter Tryz.func73,Tryz.ntmps73
  go_wp2_with fail
  refine (span_Check_bad H.out _).mono ?_;rintro e w2 ⟨rfl,hbel⟩
  have hB:=hB.on hbel
  clear hbel
  have c0:=cell_two0 hB.b1
  have c1:=cell_two1 hB.b1
  have f0:=free_two (i:=0) hB.b1
  have f1:=free_two (i:=1) hB.b1
  have l2:=lt_of_block hB.b1
  go_wp2_with fail
  exact bodyPost_ret (v:=.tuple #[.agg #[.int .i64 0,.int .i64 0],.int .i64 20]) (by simp [results,Tryz.results73,go_sem,c0,c1]) rfl ⟨ret_sp HR.out,below_set2 hB.bel (by omega) _ _⟩


set_option maxHeartbeats 1000000 in
theorem span_Of (lo hi:Int) (w:World) :
  Calls Tryz.prog 93 #[.int .i64 lo,.int .i64 hi] w fun e w'=>e=.returned (.tuple #[.agg #[.int .i64 (sOf lo hi).1.1,.int .i64 (sOf lo hi).1.2],.int .i64 (sOf lo hi).2])/\Below w.heap.size w w':=by
 have hB:=Bx2.start w (0,0) (lo,hi)
 by_cases hs:okS (lo,hi)
 ·have H:=Lib.hid hs
  have HR:=Lib.hid (sOf_ok hs)
  clear hs
  go_enter Tryz.func93,Tryz.ntmps93
  go_wp2_with fail
  refine (span_Check_ok H.out _).mono ?_;rintro e w2 ⟨rfl,hbel⟩
  have hB:=hB.on hbel
  clear hbel
  have c0:=cell_two0 hB.b0
  have c1:=cell_two1 hB.b0
  have f0:=free_two (i:=0) hB.b0
  have f1:=free_two (i:=1) hB.b0
  have d0:=cell_two0 hB.b1
  have d1:=cell_two1 hB.b1
  have l2:=lt_of_block hB.b0
  go_wp2_with fail
  exact bodyPost_ret (v:=.tuple #[.agg #[.int .i64 lo,.int .i64 hi],.int .i64 0]) (by simp [results,Tryz.results93,go_sem,c0,c1]) rfl ⟨ret_sp HR.out,below_set2 hB.bel (by omega) _ _⟩
 ·have H:=Lib.hid hs
  have HR:=Lib.hid (sOf_bad hs)
  clear hs
  go_enter Tryz.func93,Tryz.ntmps93
  go_wp2_with fail
  refine (span_Check_bad H.out _).mono ?_;rintro e w2 ⟨rfl,hbel⟩
  have hB:=hB.on hbel
  clear hbel
  have c0:=cell_two0 hB.b0
  have c1:=cell_two1 hB.b0
  have f0:=free_two (i:=0) hB.b0
  have f1:=free_two (i:=1) hB.b0
  have l2:=lt_of_block hB.b0
  go_wp2_with fail
  exact bodyPost_ret (v:=.tuple #[.agg #[.int .i64 0,.int .i64 0],.int .i64 20]) (by simp [results,Tryz.results93,go_sem,c0,c1]) rfl ⟨ret_sp HR.out,below_set2 hB.bel (by omega) _ _⟩


set_option maxHeartbeats 1000000 in
theorem span_Point (v:Int) (w:World) :
  Calls Tryz.prog 72 #[.int .i64 v] w fun e w'=>e=.returned (.tuple #[.agg #[.int .i64 (sOf v v).1.1,.int .i64 (sOf v v).1.2],.int .i64 (sOf v v).2])/\Below w.heap.size w w':=by
 have hB:=Bx1.start w (0,0)
 go_enter Tryz.func72,Tryz.ntmps72
 go_wp2_with fail
 refine (span_Of v v _).mono ?_;rintro e w2 ⟨rfl,hbel⟩
 have hB:=hB.on hbel
 clear hbel
 have c0:=cell_two0 hB.b0
 have c1:=cell_two1 hB.b0
 have f0:=free_two (i:=0) hB.b0
 have f1:=free_two (i:=1) hB.b0
 have l2:=lt_of_block hB.b0
 go_wp2_with fail
 exact bodyPost_ret (v:=.tuple #[.agg #[.int .i64 (sOf v v).1.1,.int .i64 (sOf v v).1.2],.int .i64 (sOf v v).2]) (by simp [results,Tryz.results72,go_sem,c0,c1]) rfl ⟨rfl,below_set2 hB.bel (by omega) _ _⟩


theorem sSqrt_ok {s:Int×Int} (h:okS s) (h0:0<=s.1):sSqrt s=sT (rt false s.1).1 (rt true s.2).1:=by
 have e:sSqrt s=_:=on1_ok h
 have hs:=h
 obtain ⟨h1,h2,h3⟩:=hs
 rw [e,if_neg (by omega),rt_ok false h.lo h0,rt_ok true h.hi (by omega)]
 have a1:=rtOf_le false (n:=s.1.toNat*4294967296) (r:=4398046511104) (by omega)
 have a2:=rtOf_le true (n:=s.2.toNat*4294967296) (r:=4398046511104) (by omega)
 exact (sT_ok (by omega) (by omega)).symm

/-- The box of the operand set anew. -/
theorem Bx2.set {w W:World} {s r:Int×Int} (h:Bx2 w W s r) (x y:Int):Bx2 w ((W.setCell ⟨w.heap.size,0,none⟩ (.int .i64 x)).setCell ⟨w.heap.size,1,none⟩ (.int .i64 y)) (x,y) r :=
 ⟨below_set2 h.bel (Nat.le_refl _) _ _,by rw [heap_setCell_same _ _ _ _ _ _ (heap_setCell_same _ _ _ _ _ _ h.b0)];rfl,by rw [heap_setCell_other _ _ _ _ (by simp),heap_setCell_other _ _ _ _ (by simp)];exact h.b1⟩


set_option maxHeartbeats 1000000 in
theorem span_Sqrt (s:Int×Int) (w:World) :
  Calls Tryz.prog 53 #[.agg #[.int .i64 s.1,.int .i64 s.2]] w fun e w'=>e=.returned (.tuple #[.agg #[.int .i64 (sSqrt s).1.1,.int .i64 (sSqrt s).1.2],.int .i64 (sSqrt s).2])/\Below w.heap.size w w':=by
 have hB:=Bx2.start w s (0,0)
 by_cases hs:okS s
 ·have H:=Lib.hid hs
  by_cases h0:s.1<0
  ·have HR:=Lib.hid (show sSqrt s=((0,0),2) by have e:sSqrt s=_:=on1_ok hs;rw [e,if_pos h0])
   clear hs
   go_enter Tryz.func53,Tryz.ntmps53
   go_wp2_with fail
   refine (span_Check_ok H.out _).mono ?_;rintro e w2 ⟨rfl,hbel⟩
   have hB:=hB.on hbel
   clear hbel
   have a0:=cell_two0 hB.b0
   have a1:=cell_two1 hB.b0
   have c0:=cell_two0 hB.b1
   have c1:=cell_two1 hB.b1
   have f0:=free_two (i:=0) hB.b1
   have f1:=free_two (i:=1) hB.b1
   have l2:=lt_of_block hB.b1
   go_wp2_with fail
   exact bodyPost_ret (v:=.tuple #[.agg #[.int .i64 0,.int .i64 0],.int .i64 2]) (by simp [results,Tryz.results53,go_sem,c0,c1]) rfl ⟨ret_sp HR.out,below_set2 hB.bel (by omega) _ _⟩
  ·have HR:=Lib.hid (sSqrt_ok hs (by omega))
   clear hs
   go_enter Tryz.func53,Tryz.ntmps53
   go_wp2_with fail
   refine (span_Check_ok H.out _).mono ?_;rintro e w2 ⟨rfl,hbel⟩
   have hB:=hB.on hbel
   clear hbel
   have a0:=cell_two0 hB.b0
   have a1:=cell_two1 hB.b0
   go_wp2_with fail
   refine (fix_SqrtDown _ _).mono ?_;rintro e w3 ⟨rfl,hbel⟩
   have hB:=hB.on hbel
   clear hbel a0 a1
   have a0:=cell_two0 hB.b0
   have a1:=cell_two1 hB.b0
   go_wp2_with fail
   refine (fix_SqrtUp _ _).mono ?_;rintro e w4 ⟨rfl,hbel⟩
   have hB:=hB.on hbel
   clear hbel a0 a1
   go_wp2_with fail
   refine (span_told _ _ _).mono ?_;rintro e w5 ⟨rfl,hbel⟩
   rw [←HR.out]
   have hB:=hB.on hbel
   clear hbel
   have c0:=cell_two0 hB.b1
   have c1:=cell_two1 hB.b1
   have f0:=free_two (i:=0) hB.b1
   have f1:=free_two (i:=1) hB.b1
   have l2:=lt_of_block hB.b1
   go_wp2_with fail
   exact bodyPost_ret (v:=.tuple #[.agg #[.int .i64 (sSqrt s).1.1,.int .i64 (sSqrt s).1.2],.int .i64 (sSqrt s).2]) (by simp [results,Tryz.results53,go_sem,c0,c1]) rfl ⟨rfl,below_set2 hB.bel (by omega) _ _⟩
 ·have H:=Lib.hid hs
  have HR:=Lib.hid (show sSqrt s=((0,0),20) from on1_bad hs)
  clear hs
  go_enter Tryz.func53,Tryz.ntmps53
  go_wp2_with fail
  refine (span_Check_bad H.out _).mono ?_;rintro e w2 ⟨rfl,hbel⟩
  have hB:=hB.on hbel
  clear hbel
  have c0:=cell_two0 hB.b1
  have c1:=cell_two1 hB.b1
  have f0:=free_two (i:=0) hB.b1
  have f1:=free_two (i:=1) hB.b1
  have l2:=lt_of_block hB.b1
  go_wp2_with fail
  exact bodyPost_ret (v:=.tuple #[.agg #[.int .i64 0,.int .i64 0],.int .i64 20]) (by simp [results,Tryz.results53,go_sem,c0,c1]) rfl ⟨ret_sp HR.out,below_set2 hB.bel (by omega) _ _⟩


end Go.Proofs.YthhkcfpljgdnhaaGreat