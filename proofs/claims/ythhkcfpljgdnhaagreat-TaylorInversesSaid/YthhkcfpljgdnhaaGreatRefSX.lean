/- Contracts of the reference of layer 2: Mul, Div. Printed by wip/genRC.py. -/
import Derived.BigRegion
import Derived.Deep.RegionHeld3
import Derived.Test.YthhkcfpljgdnhaaGreatRefY
import Derived.Test.YthhkcfpljgdnhaaGreatSpanX
namespace Mnc
open Go
/-- What stands at place j before round k. -/
def lk (v:Int) (j k:Nat):Int:=if j<k then v else 0
theorem fitB_and (l1 l2 l3 l4 h1 h2 h3 h4:Int) (k1:l1<=h1) (k2:l2<=h2) (k3:l3<=h3) (k4:l4<=h4) :
  (if (((((true && (fitB l1).2 && (fitB h1).2) && (fitB l2).2 && (fitB h2).2) && (fitB l3).2 && (fitB h3).2) && (fitB l4).2 && (fitB h4).2))=true then sT (min4 (fitB l1).1 (fitB l2).1 (fitB l3).1 (fitB l4).1) (max4 (fitB h1).1 (fitB h2).1 (fitB h3).1 (fitB h4).1) else ((0,0),6))=sT (min4 l1 l2 l3 l4) (max4 h1 h2 h3 h4):=by
 by_cases h:ok l1/\ok h1/\ok l2/\ok h2/\ok l3/\ok h3/\ok l4/\ok h4
 ·obtain ⟨a1,b1,a2,b2,a3,b3,a4,b4⟩:=h
  rw [fitB_ok a1,fitB_ok b1,fitB_ok a2,fitB_ok b2,fitB_ok a3,fitB_ok b3,fitB_ok a4,fitB_ok b4]
  rfl
 ·rw [if_neg,sT_bad]
  ·unfold ok at h
   unfold min4 max4
   omega
  ·intro g
   apply h
   have e:∀v,(fitB v).2=true->ok v:=fun v hv=>by
    by_cases hh:ok v
    ·exact hh
    ·rw [fitB_bad hh] at hv
     cases hv
   simp only [Bool.true_and,Bool.and_eq_true] at g
   obtain ⟨⟨⟨⟨⟨⟨⟨g1,g2⟩,g3⟩,g4⟩,g5⟩,g6⟩,g7⟩,g8⟩:=g
   exact ⟨e _ g1,e _ g2,e _ g3,e _ g4,e _ g5,e _ g6,e _ g7,e _ g8⟩
theorem fitB_le {l1 l2 l3 l4 h1 h2 h3 h4:Int} (k1:l1<=h1) (k2:l2<=h2) (k3:l3<=h3) (k4:l4<=h4) (h:(((((true && (fitB l1).2 && (fitB h1).2) && (fitB l2).2 && (fitB h2).2) && (fitB l3).2 && (fitB h3).2) && (fitB l4).2 && (fitB h4).2))=true):min4 (fitB l1).1 (fitB l2).1 (fitB l3).1 (fitB l4).1<=max4 (fitB h1).1 (fitB h2).1 (fitB h3).1 (fitB h4).1:=by
 have e:∀v,(fitB v).2=true->(fitB v).1=v:=fun v hv=>by
  by_cases hh:ok v
  ·rw [fitB_ok hh]
  ·rw [fitB_bad hh] at hv
   cases hv
 simp only [Bool.true_and,Bool.and_eq_true] at h
 obtain ⟨⟨⟨⟨⟨⟨⟨g1,g2⟩,g3⟩,g4⟩,g5⟩,g6⟩,g7⟩,g8⟩:=h
 rw [e _ g1,e _ g2,e _ g3,e _ g4,e _ g5,e _ g6,e _ g7,e _ g8]
 unfold min4 max4
 omega
end Mnc
namespace Go.Proofs.YthhkcfpljgdnhaaGreat
open Go.RowKit Mnc

theorem keep4 {w3 W:World} {B0 B1:Nat} {x y z u:Value} (l0:B0<w3.heap.size) (l1:B1<w3.heap.size) (a0:w3.cell? ⟨B0,0,none⟩=some x) (a1:w3.cell? ⟨B0,1,none⟩=some y) (b0:w3.cell? ⟨B1,0,none⟩=some z) (b1:w3.cell? ⟨B1,1,none⟩=some u) (k:Below w3.heap.size w3 W) :
  W.cell? ⟨B0,0,none⟩=some x/\W.cell? ⟨B0,1,none⟩=some y/\W.cell? ⟨B1,0,none⟩=some z/\W.cell? ⟨B1,1,none⟩=some u :=
 ⟨(k.cell (p:=⟨B0,0,none⟩) l0).trans a0,(k.cell (p:=⟨B0,1,none⟩) l0).trans a1,(k.cell (p:=⟨B1,0,none⟩) l1).trans b0,(k.cell (p:=⟨B1,1,none⟩) l1).trans b1⟩
theorem keep2c {w3 W:World} {B0 B1 i j:Nat} {x y:Value} (l0:B0<w3.heap.size) (l1:B1<w3.heap.size) (a0:w3.cell? ⟨B0,i,none⟩=some x) (a1:w3.cell? ⟨B1,j,none⟩=some y) (k:Below w3.heap.size w3 W) :
  W.cell? ⟨B0,i,none⟩=some x/\W.cell? ⟨B1,j,none⟩=some y/\Below w3.heap.size w3 W :=
 ⟨(k.cell (p:=⟨B0,i,none⟩) l0).trans a0,(k.cell (p:=⟨B1,j,none⟩) l1).trans a1,k⟩
theorem ref1_Mul_dn (a b:Int) (ha:ok a) (hb:ok b) (w:World) :
  Calls Tryz.prog 106 #[.int .i64 a,.int .i64 b,.bool false] w fun e w'=>e=.returned (.tuple #[.int .i64 (fitB (fl (a*b))).1,.bool (fitB (fl (a*b))).2])/\Below w.heap.size w w' :=
 (ref1_Mul a b false ha hb w).mono fun _ _ hh=>⟨hh.1,hh.2 ▸ Below.refl _ _⟩
theorem ref1_Mul_up (a b:Int) (ha:ok a) (hb:ok b) (w:World) :
  Calls Tryz.prog 106 #[.int .i64 a,.int .i64 b,.bool true] w fun e w'=>e=.returned (.tuple #[.int .i64 (fitB (cl (a*b))).1,.bool (fitB (cl (a*b))).2])/\Below w.heap.size w w' :=
 (ref1_Mul a b true ha hb w).mono fun _ _ hh=>⟨hh.1,hh.2 ▸ Below.refl _ _⟩

/-- The arrays of the arguments, and the result's box. -/
structure MB (w W:World) (X Y:Nat) (x0 x1 x2 x3 y0 y1 y2 y3:Int):Prop where
 bel:Below w.heap.size w W
 lx:w.heap.size+1+1<X
 ly:w.heap.size+1+1<Y
 b2:W.heap[w.heap.size+1+1]?=some (.cells #[.int .i64 0,.int .i64 0] 31 (0,0))
 bx:W.heap[X]?=some (.cells #[.int .i64 x0,.int .i64 x1,.int .i64 x2,.int .i64 x3] 123 (0,0))
 by_:W.heap[Y]?=some (.cells #[.int .i64 y0,.int .i64 y1,.int .i64 y2,.int .i64 y3] 123 (0,0))
theorem MB.on {w W W':World} {X Y:Nat} {x0 x1 x2 x3 y0 y1 y2 y3:Int} (h:MB w W X Y x0 x1 x2 x3 y0 y1 y2 y3) (k:Below W.heap.size W W'):MB w W' X Y x0 x1 x2 x3 y0 y1 y2 y3 :=
 ⟨below_step h.bel k,h.lx,h.ly,(k.block _ (lt_of_block h.b2)).trans h.b2,(k.block _ (lt_of_block h.bx)).trans h.bx,(k.block _ (lt_of_block h.by_)).trans h.by_⟩
theorem mb1 {w w3:World} {s t:Int×Int} (h:Bx3 w w3 s t (0,0)) (x0 x1 x2 x3 y0 y1 y2 y3:Int):MB w ((w3.alloc (.cells #[.int .i64 x0,.int .i64 x1,.int .i64 x2,.int .i64 x3] 123)).alloc (.cells #[.int .i64 y0,.int .i64 y1,.int .i64 y2,.int .i64 y3] 123)).drew w3.heap.size (w3.heap.size+1) x0 x1 x2 x3 y0 y1 y2 y3:=by
 have hl:=lt_of_block h.b2
 have hk:Below w3.heap.size w3 ((w3.alloc (.cells #[.int .i64 x0,.int .i64 x1,.int .i64 x2,.int .i64 x3] 123)).alloc (.cells #[.int .i64 y0,.int .i64 y1,.int .i64 y2,.int .i64 y3] 123)).drew:=(below_alloc (below_alloc (Below.refl _ _) _) _).drew
 exact ⟨below_step h.bel hk,hl,by omega,(hk.block _ hl).trans h.b2,heap_up _ (heap_at _ rfl),heap_at _ (by simp)⟩
theorem mb2 {w w3:World} {s t:Int×Int} (h:Bx3 w w3 s t (0,0)) (x0 x1 x2 x3 y0 y1 y2 y3:Int):MB w ((w3.alloc (.cells #[.int .i64 y0,.int .i64 y1,.int .i64 y2,.int .i64 y3] 123)).alloc (.cells #[.int .i64 x0,.int .i64 x1,.int .i64 x2,.int .i64 x3] 123)).drew (w3.heap.size+1) w3.heap.size x0 x1 x2 x3 y0 y1 y2 y3:=by
 have hl:=lt_of_block h.b2
 have hk:Below w3.heap.size w3 ((w3.alloc (.cells #[.int .i64 y0,.int .i64 y1,.int .i64 y2,.int .i64 y3] 123)).alloc (.cells #[.int .i64 x0,.int .i64 x1,.int .i64 x2,.int .i64 x3] 123)).drew:=(below_alloc (below_alloc (Below.refl _ _) _) _).drew
 exact ⟨below_step h.bel hk,by omega,hl,(hk.block _ hl).trans h.b2,heap_at _ (by simp),heap_up _ (heap_at _ rfl)⟩

/-- The same, with the arrays of the results. -/
structure ML (w W:World) (X Y L H:Nat) (x0 x1 x2 x3 y0 y1 y2 y3 l0 l1 l2 l3 h0 h1 h2 h3:Int):Prop where
 mb:MB w W X Y x0 x1 x2 x3 y0 y1 y2 y3
 ll:w.heap.size+1+1<L/\X<L/\Y<L/\H=L+1
 bl:W.heap[L]?=some (.cells #[.int .i64 l0,.int .i64 l1,.int .i64 l2,.int .i64 l3] 123 (0,0))
 bh:W.heap[H]?=some (.cells #[.int .i64 h0,.int .i64 h1,.int .i64 h2,.int .i64 h3] 123 (0,0))
theorem ML.on {w W W':World} {X Y L H:Nat} {x0 x1 x2 x3 y0 y1 y2 y3 l0 l1 l2 l3 h0 h1 h2 h3:Int} (h:ML w W X Y L H x0 x1 x2 x3 y0 y1 y2 y3 l0 l1 l2 l3 h0 h1 h2 h3) (k:Below W.heap.size W W'):ML w W' X Y L H x0 x1 x2 x3 y0 y1 y2 y3 l0 l1 l2 l3 h0 h1 h2 h3 :=
 ⟨h.mb.on k,h.ll,(k.block _ (lt_of_block h.bl)).trans h.bl,(k.block _ (lt_of_block h.bh)).trans h.bh⟩
theorem ML.start {w W:World} {X Y:Nat} {x0 x1 x2 x3 y0 y1 y2 y3:Int} (h:MB w W X Y x0 x1 x2 x3 y0 y1 y2 y3):ML w ((W.alloc (.cells #[.int .i64 0,.int .i64 0,.int .i64 0,.int .i64 0] 123)).alloc (.cells #[.int .i64 0,.int .i64 0,.int .i64 0,.int .i64 0] 123)) X Y W.heap.size (W.heap.size+1) x0 x1 x2 x3 y0 y1 y2 y3 0 0 0 0 0 0 0 0 :=
 ⟨h.on (below_alloc (below_alloc (Below.refl _ _) _) _),⟨lt_of_block h.b2,lt_of_block h.bx,lt_of_block h.by_,rfl⟩,heap_up _ (heap_at _ rfl),heap_at _ (by simp)⟩
theorem ML.set0 {w W:World} {X Y L H:Nat} {x0 x1 x2 x3 y0 y1 y2 y3 l0 l1 l2 l3 h0 h1 h2 h3:Int} (h:ML w W X Y L H x0 x1 x2 x3 y0 y1 y2 y3 l0 l1 l2 l3 h0 h1 h2 h3) (u v:Int):ML w ((W.setCell ⟨L,0,none⟩ (.int .i64 u)).setCell ⟨H,0,none⟩ (.int .i64 v)) X Y L H x0 x1 x2 x3 y0 y1 y2 y3 u l1 l2 l3 v h1 h2 h3:=by
 obtain ⟨⟨bel,lx,ly,b2,bx,by_⟩,⟨q1,q2,q3,q4⟩,bl,bh⟩:=h
 refine ⟨⟨(bel.setCell (by simp only;omega) _).setCell (by simp only;omega) _,lx,ly,?_,?_,?_⟩,⟨q1,q2,q3,q4⟩,?_,?_⟩
 ·rw [heap_setCell_other _ _ _ _ (by simp only;omega),heap_setCell_other _ _ _ _ (by simp only;omega)];exact b2
 ·rw [heap_setCell_other _ _ _ _ (by simp only;omega),heap_setCell_other _ _ _ _ (by simp only;omega)];exact bx
 ·rw [heap_setCell_other _ _ _ _ (by simp only;omega),heap_setCell_other _ _ _ _ (by simp only;omega)];exact by_
 ·rw [heap_setCell_other _ _ _ _ (by simp only;omega),heap_setCell_same _ _ _ _ _ _ bl];rfl
 ·rw [heap_setCell_same _ _ _ _ _ _ ((heap_setCell_other _ _ _ _ (by simp only;omega)).trans bh)];rfl
theorem ML.set1 {w W:World} {X Y L H:Nat} {x0 x1 x2 x3 y0 y1 y2 y3 l0 l1 l2 l3 h0 h1 h2 h3:Int} (h:ML w W X Y L H x0 x1 x2 x3 y0 y1 y2 y3 l0 l1 l2 l3 h0 h1 h2 h3) (u v:Int):ML w ((W.setCell ⟨L,1,none⟩ (.int .i64 u)).setCell ⟨H,1,none⟩ (.int .i64 v)) X Y L H x0 x1 x2 x3 y0 y1 y2 y3 l0 u l2 l3 h0 v h2 h3:=by
 obtain ⟨⟨bel,lx,ly,b2,bx,by_⟩,⟨q1,q2,q3,q4⟩,bl,bh⟩:=h
 refine ⟨⟨(bel.setCell (by simp only;omega) _).setCell (by simp only;omega) _,lx,ly,?_,?_,?_⟩,⟨q1,q2,q3,q4⟩,?_,?_⟩
 ·rw [heap_setCell_other _ _ _ _ (by simp only;omega),heap_setCell_other _ _ _ _ (by simp only;omega)];exact b2
 ·rw [heap_setCell_other _ _ _ _ (by simp only;omega),heap_setCell_other _ _ _ _ (by simp only;omega)];exact bx
 ·rw [heap_setCell_other _ _ _ _ (by simp only;omega),heap_setCell_other _ _ _ _ (by simp only;omega)];exact by_
 ·rw [heap_setCell_other _ _ _ _ (by simp only;omega),heap_setCell_same _ _ _ _ _ _ bl];rfl
 ·rw [heap_setCell_same _ _ _ _ _ _ ((heap_setCell_other _ _ _ _ (by simp only;omega)).trans bh)];rfl
theorem ML.set2 {w W:World} {X Y L H:Nat} {x0 x1 x2 x3 y0 y1 y2 y3 l0 l1 l2 l3 h0 h1 h2 h3:Int} (h:ML w W X Y L H x0 x1 x2 x3 y0 y1 y2 y3 l0 l1 l2 l3 h0 h1 h2 h3) (u v:Int):ML w ((W.setCell ⟨L,2,none⟩ (.int .i64 u)).setCell ⟨H,2,none⟩ (.int .i64 v)) X Y L H x0 x1 x2 x3 y0 y1 y2 y3 l0 l1 u l3 h0 h1 v h3:=by
 obtain ⟨⟨bel,lx,ly,b2,bx,by_⟩,⟨q1,q2,q3,q4⟩,bl,bh⟩:=h
 refine ⟨⟨(bel.setCell (by simp only;omega) _).setCell (by simp only;omega) _,lx,ly,?_,?_,?_⟩,⟨q1,q2,q3,q4⟩,?_,?_⟩
 ·rw [heap_setCell_other _ _ _ _ (by simp only;omega),heap_setCell_other _ _ _ _ (by simp only;omega)];exact b2
 ·rw [heap_setCell_other _ _ _ _ (by simp only;omega),heap_setCell_other _ _ _ _ (by simp only;omega)];exact bx
 ·rw [heap_setCell_other _ _ _ _ (by simp only;omega),heap_setCell_other _ _ _ _ (by simp only;omega)];exact by_
 ·rw [heap_setCell_other _ _ _ _ (by simp only;omega),heap_setCell_same _ _ _ _ _ _ bl];rfl
 ·rw [heap_setCell_same _ _ _ _ _ _ ((heap_setCell_other _ _ _ _ (by simp only;omega)).trans bh)];rfl
theorem ML.set3 {w W:World} {X Y L H:Nat} {x0 x1 x2 x3 y0 y1 y2 y3 l0 l1 l2 l3 h0 h1 h2 h3:Int} (h:ML w W X Y L H x0 x1 x2 x3 y0 y1 y2 y3 l0 l1 l2 l3 h0 h1 h2 h3) (u v:Int):ML w ((W.setCell ⟨L,3,none⟩ (.int .i64 u)).setCell ⟨H,3,none⟩ (.int .i64 v)) X Y L H x0 x1 x2 x3 y0 y1 y2 y3 l0 l1 l2 u h0 h1 h2 v:=by
 obtain ⟨⟨bel,lx,ly,b2,bx,by_⟩,⟨q1,q2,q3,q4⟩,bl,bh⟩:=h
 refine ⟨⟨(bel.setCell (by simp only;omega) _).setCell (by simp only;omega) _,lx,ly,?_,?_,?_⟩,⟨q1,q2,q3,q4⟩,?_,?_⟩
 ·rw [heap_setCell_other _ _ _ _ (by simp only;omega),heap_setCell_other _ _ _ _ (by simp only;omega)];exact b2
 ·rw [heap_setCell_other _ _ _ _ (by simp only;omega),heap_setCell_other _ _ _ _ (by simp only;omega)];exact bx
 ·rw [heap_setCell_other _ _ _ _ (by simp only;omega),heap_setCell_other _ _ _ _ (by simp only;omega)];exact by_
 ·rw [heap_setCell_other _ _ _ _ (by simp only;omega),heap_setCell_same _ _ _ _ _ _ bl];rfl
 ·rw [heap_setCell_same _ _ _ _ _ _ ((heap_setCell_other _ _ _ _ (by simp only;omega)).trans bh)];rfl
theorem frz4 {w:World} {b i:Nat} {p q r s:Value} {t:TypeId} (h:w.heap[b]?=some (.cells #[p,q,r,s] t (0,0))):w.frozen? ⟨b,i,none⟩=false:=by simp [World.frozen?,h]

def ref2_mul_fk (s t:Int×Int):Nat->Bool
 | 0=>true
 | 1=>(true && (fitB (fl (s.1*t.1))).2 && (fitB (cl (s.1*t.1))).2)
 | 2=>((true && (fitB (fl (s.1*t.1))).2 && (fitB (cl (s.1*t.1))).2) && (fitB (fl (s.1*t.2))).2 && (fitB (cl (s.1*t.2))).2)
 | 3=>(((true && (fitB (fl (s.1*t.1))).2 && (fitB (cl (s.1*t.1))).2) && (fitB (fl (s.1*t.2))).2 && (fitB (cl (s.1*t.2))).2) && (fitB (fl (s.2*t.1))).2 && (fitB (cl (s.2*t.1))).2)
 | _=>((((true && (fitB (fl (s.1*t.1))).2 && (fitB (cl (s.1*t.1))).2) && (fitB (fl (s.1*t.2))).2 && (fitB (cl (s.1*t.2))).2) && (fitB (fl (s.2*t.1))).2 && (fitB (cl (s.2*t.1))).2) && (fitB (fl (s.2*t.2))).2 && (fitB (cl (s.2*t.2))).2)
set_option maxRecDepth 100000 in
set_option maxHeartbeats 4000000 in
theorem ref2_Mul_ok (s t:Int×Int) (w:World) (hs:okS s) (ht:okS t) :
  Calls Tryz.prog 91 #[.agg #[.int .i64 s.1,.int .i64 s.2],.agg #[.int .i64 t.1,.int .i64 t.2]] w fun e w'=>e=.returned (.tuple #[.agg #[.int .i64 (sMul s t).1.1,.int .i64 (sMul s t).1.2],.int .i64 (sMul s t).2])/\Below w.heap.size w w':=by
 have hB:=Bx3.start w s t
 have HS:=Lib.hid hs
 have HT:=Lib.hid ht
 have hle0:fl (s.1*t.1)<=cl (s.1*t.1):=fl_le_cl _
 have hle1:fl (s.1*t.2)<=cl (s.1*t.2):=fl_le_cl _
 have hle2:fl (s.2*t.1)<=cl (s.2*t.1):=fl_le_cl _
 have hle3:fl (s.2*t.2)<=cl (s.2*t.2):=fl_le_cl _
 have HFA:=Lib.hid (fitB_and _ _ _ _ _ _ _ _ hle0 hle1 hle2 hle3)
 have HFL:=Lib.hid (fun h=>fitB_le hle0 hle1 hle2 hle3 h)
 have HR:=Lib.hid (show sMul s t=sT (min4 (fl (s.1*t.1)) (fl (s.1*t.2)) (fl (s.2*t.1)) (fl (s.2*t.2))) (max4 (cl (s.1*t.1)) (cl (s.1*t.2)) (cl (s.2*t.1)) (cl (s.2*t.2))) from on2_ok hs ht)
 have HC00:=Lib.hid (fun W=>(ref1_Mul_dn (s.1) (t.1) HS.out.lo HT.out.lo W))
 have HC01:=Lib.hid (fun W=>(ref1_Mul_up (s.1) (t.1) HS.out.lo HT.out.lo W))
 have HC10:=Lib.hid (fun W=>(ref1_Mul_dn (s.1) (t.2) HS.out.lo HT.out.hi W))
 have HC11:=Lib.hid (fun W=>(ref1_Mul_up (s.1) (t.2) HS.out.lo HT.out.hi W))
 have HC20:=Lib.hid (fun W=>(ref1_Mul_dn (s.2) (t.1) HS.out.hi HT.out.lo W))
 have HC21:=Lib.hid (fun W=>(ref1_Mul_up (s.2) (t.1) HS.out.hi HT.out.lo W))
 have HC30:=Lib.hid (fun W=>(ref1_Mul_dn (s.2) (t.2) HS.out.hi HT.out.hi W))
 have HC31:=Lib.hid (fun W=>(ref1_Mul_up (s.2) (t.2) HS.out.hi HT.out.hi W))
 clear hs ht hle0 hle1 hle2 hle3
 go_enter Tryz.func91,Tryz.ntmps91
 go_wp2_with fail
 refine (ref2_Right_ok HS.out _).mono ?_;rintro e w2 ⟨rfl,hbel⟩
 have hB:=hB.on hbel
 clear hbel
 have a0:=cell_two0 hB.b0
 have a1:=cell_two1 hB.b0
 have b0:=cell_two0 hB.b1
 have b1:=cell_two1 hB.b1
 go_wp2_with fail
 refine (ref2_Right_ok HT.out _).mono ?_;rintro e w3 ⟨rfl,hbel⟩
 have hB:=hB.on hbel
 clear hbel a0 a1 b0 b1
 have a0:=cell_two0 hB.b0
 have a1:=cell_two1 hB.b0
 have b0:=cell_two0 hB.b1
 have b1:=cell_two1 hB.b1
 have l0:=lt_of_block hB.b0
 have l1:=lt_of_block hB.b1
 go_wp2_with fail
 go_region_held3 (fun w'=>w'.cell? ⟨w.heap.size,0,none⟩=some (.int .i64 s.1)/\w'.cell? ⟨w.heap.size,1,none⟩=some (.int .i64 s.2)/\w'.cell? ⟨w.heap.size+1,0,none⟩=some (.int .i64 t.1)/\w'.cell? ⟨w.heap.size+1,1,none⟩=some (.int .i64 t.2))
  (first
   | exact keep4 l0 l1 a0 a1 b0 b1 (by first | exact Below.refl _ _ | exact (Below.refl _ _).drew | exact below_alloc (Below.refl _ _).drew _ | exact below_alloc (below_alloc (Below.refl _ _).drew _) _ | exact (below_alloc (Below.refl _ _) _).drew | exact (below_alloc (below_alloc (Below.refl _ _) _) _).drew)
   | (go_split_ands;exact keep4 l0 l1 a0 a1 b0 b1 (by first | exact Below.refl _ _ | exact (Below.refl _ _).drew | exact below_alloc (Below.refl _ _).drew _ | exact below_alloc (below_alloc (Below.refl _ _).drew _) _ | exact (below_alloc (Below.refl _ _) _).drew | exact (below_alloc (below_alloc (Below.refl _ _) _) _).drew)))
  (fail)
 focus
  have hM:=mb1 hB (s.1) (s.1) (s.2) (s.2) (t.1) (t.2) (t.1) (t.2)
  clear hB a0 a1 b0 b1 l0 l1
  generalize ((w3.alloc (.cells #[.int .i64 s.1,.int .i64 s.1,.int .i64 s.2,.int .i64 s.2] 123)).alloc (.cells #[.int .i64 t.1,.int .i64 t.2,.int .i64 t.1,.int .i64 t.2] 123)).drew=W4 at *
  generalize w3.heap.size+1=Y at *
  generalize w3.heap.size=X at *
 rotate_left
 focus
  have hM:=mb2 hB (s.1) (s.1) (s.2) (s.2) (t.1) (t.2) (t.1) (t.2)
  clear hB a0 a1 b0 b1 l0 l1
  generalize ((w3.alloc (.cells #[.int .i64 t.1,.int .i64 t.2,.int .i64 t.1,.int .i64 t.2] 123)).alloc (.cells #[.int .i64 s.1,.int .i64 s.1,.int .i64 s.2,.int .i64 s.2] 123)).drew=W4 at *
  generalize w3.heap.size+1=X at *
  generalize w3.heap.size=Y at *
 all_goals
  have hL:=ML.start hM
  have HLs:=Lib.hid (show W4.heap.size<W4.heap.size+1+1 by omega)
  go_wp2_with fail
  generalize ((W4.alloc (.cells #[.int .i64 0,.int .i64 0,.int .i64 0,.int .i64 0] 123)).alloc (.cells #[.int .i64 0,.int .i64 0,.int .i64 0,.int .i64 0] 123))=W5 at *
  clear hM HLs
  generalize W4.heap.size+1=H at *
  generalize W4.heap.size=L at *
  go_loopw [10,11] (fun f i wr=>∃k:Nat,k<=4/\i=.int .i64 k/\f=.bool (ref2_mul_fk s t k)/\Hid (ML w wr X Y L H (s.1) (s.1) (s.2) (s.2) (t.1) (t.2) (t.1) (t.2) (lk (fitB (fl (s.1*t.1))).1 0 k) (lk (fitB (fl (s.1*t.2))).1 1 k) (lk (fitB (fl (s.2*t.1))).1 2 k) (lk (fitB (fl (s.2*t.2))).1 3 k) (lk (fitB (cl (s.1*t.1))).1 0 k) (lk (fitB (cl (s.1*t.2))).1 1 k) (lk (fitB (cl (s.2*t.1))).1 2 k) (lk (fitB (cl (s.2*t.2))).1 3 k))) (fun _ i _=>4-(intOf i).toNat)
  case atStart=>exact ⟨0,by omega,rfl,rfl,Lib.hid hL⟩
  case round =>
   clear hL
   obtain ⟨k,hk,rfl,rfl,HL⟩:=hrel
   rcases (by omega:k=0∨k=1∨k=2∨k=3∨k=4) with rfl | rfl | rfl | rfl | rfl
   ·have HK:Hid (ref2_mul_fk s t 1=(ref2_mul_fk s t 0 && (fitB (fl (s.1*t.1))).2 && (fitB (cl (s.1*t.1))).2)):=Lib.hid rfl
    generalize ref2_mul_fk s t 0=F at *
    obtain ⟨cx0,cx1,cx2,cx3⟩:=cell_four HL.out.mb.bx
    obtain ⟨cy0,cy1,cy2,cy3⟩:=cell_four HL.out.mb.by_
    have lx:=lt_of_block HL.out.mb.bx
    have ly:=lt_of_block HL.out.mb.by_
    go_wp2_with fail
    go_region_held3 (fun w'=>w'.cell? ⟨X,0,none⟩=some (.int .i64 s.1)/\w'.cell? ⟨Y,0,none⟩=some (.int .i64 t.1)/\Below wr.heap.size wr w')
     (first
      | exact keep2c lx ly cx0 cy0 (Below.refl _ _)
      | exact keep2c lx ly cx0 cy0 (Below.refl _ _).drew
      | (go_split_ands;exact keep2c lx ly cx0 cy0 (by assumption))
      | (go_split_ands;exact keep2c lx ly cx0 cy0 (below_step (by assumption) hbel)))
     (first | (go_at_call 106;refine (HC00.out _).mono ?_;rintro e wa ⟨rfl,hbel⟩))
    have hbel0:Below wr.heap.size wr wa:=by go_split_ands;assumption
    have HL:=Lib.hid (HL.out.on hbel0)
    clear hbel0 cx0 cx1 cx2 cx3 cy0 cy1 cy2 cy3 lx ly
    obtain ⟨cx0,cx1,cx2,cx3⟩:=cell_four HL.out.mb.bx
    obtain ⟨cy0,cy1,cy2,cy3⟩:=cell_four HL.out.mb.by_
    have lx:=lt_of_block HL.out.mb.bx
    have ly:=lt_of_block HL.out.mb.by_
    go_wp2_with fail
    go_region_held3 (fun w'=>w'.cell? ⟨X,0,none⟩=some (.int .i64 s.1)/\w'.cell? ⟨Y,0,none⟩=some (.int .i64 t.1)/\Below wa.heap.size wa w')
     (first
      | exact keep2c lx ly cx0 cy0 (Below.refl _ _)
      | exact keep2c lx ly cx0 cy0 (Below.refl _ _).drew
      | (go_split_ands;exact keep2c lx ly cx0 cy0 (by assumption))
      | (go_split_ands;exact keep2c lx ly cx0 cy0 (below_step (by assumption) hbel)))
     (first | (go_at_call 106;refine (HC01.out _).mono ?_;rintro e wb ⟨rfl,hbel⟩))
    have hbel1:Below wa.heap.size wa wb:=by go_split_ands;assumption
    have HL:=Lib.hid (HL.out.on hbel1)
    clear hbel1 cx0 cx1 cx2 cx3 cy0 cy1 cy2 cy3 lx ly
    clear HC00 HC01 HC10 HC11 HC20 HC21 HC30 HC31 HFA HFL HR
    obtain ⟨cl0,cl1,cl2,cl3⟩:=cell_four HL.out.bl
    obtain ⟨ch0,ch1,ch2,ch3⟩:=cell_four HL.out.bh
    have ll:=lt_of_block HL.out.bl
    have lh:=lt_of_block HL.out.bh
    have frl:=frz4 (i:=0) HL.out.bl
    have frh:=frz4 (i:=0) HL.out.bh
    have nLH:¬L=H:=by have:=HL.out.ll.2.2.2;omega
    have nHL:¬H=L:=by omega
    have HL:=Lib.hid (HL.out.set0 (fitB (fl (s.1*t.1))).1 (fitB (cl (s.1*t.1))).1)
    generalize (fitB (fl (s.1*t.1))).2=o1 at *
    generalize (fitB (cl (s.1*t.1))).2=o2 at *
    cases F
    ·go_wp2
     go_roundw
     case rel=>exact ⟨1,by omega,rfl,by rw [HK.out];rfl,HL⟩
     case measure=>simp [intOf]
    ·cases o1
     ·go_wp2
      go_roundw
      case rel=>exact ⟨1,by omega,rfl,by rw [HK.out];rfl,HL⟩
      case measure=>simp [intOf]
     ·go_wp2
      go_roundw
      case rel=>exact ⟨1,by omega,rfl,by rw [HK.out];rfl,HL⟩
      case measure=>simp [intOf]
   ·have HK:Hid (ref2_mul_fk s t 2=(ref2_mul_fk s t 1 && (fitB (fl (s.1*t.2))).2 && (fitB (cl (s.1*t.2))).2)):=Lib.hid rfl
    generalize ref2_mul_fk s t 1=F at *
    obtain ⟨cx0,cx1,cx2,cx3⟩:=cell_four HL.out.mb.bx
    obtain ⟨cy0,cy1,cy2,cy3⟩:=cell_four HL.out.mb.by_
    have lx:=lt_of_block HL.out.mb.bx
    have ly:=lt_of_block HL.out.mb.by_
    go_wp2_with fail
    go_region_held3 (fun w'=>w'.cell? ⟨X,1,none⟩=some (.int .i64 s.1)/\w'.cell? ⟨Y,1,none⟩=some (.int .i64 t.2)/\Below wr.heap.size wr w')
     (first
      | exact keep2c lx ly cx1 cy1 (Below.refl _ _)
      | exact keep2c lx ly cx1 cy1 (Below.refl _ _).drew
      | (go_split_ands;exact keep2c lx ly cx1 cy1 (by assumption))
      | (go_split_ands;exact keep2c lx ly cx1 cy1 (below_step (by assumption) hbel)))
     (first | (go_at_call 106;refine (HC10.out _).mono ?_;rintro e wa ⟨rfl,hbel⟩))
    have hbel0:Below wr.heap.size wr wa:=by go_split_ands;assumption
    have HL:=Lib.hid (HL.out.on hbel0)
    clear hbel0 cx0 cx1 cx2 cx3 cy0 cy1 cy2 cy3 lx ly
    obtain ⟨cx0,cx1,cx2,cx3⟩:=cell_four HL.out.mb.bx
    obtain ⟨cy0,cy1,cy2,cy3⟩:=cell_four HL.out.mb.by_
    have lx:=lt_of_block HL.out.mb.bx
    have ly:=lt_of_block HL.out.mb.by_
    go_wp2_with fail
    go_region_held3 (fun w'=>w'.cell? ⟨X,1,none⟩=some (.int .i64 s.1)/\w'.cell? ⟨Y,1,none⟩=some (.int .i64 t.2)/\Below wa.heap.size wa w')
     (first
      | exact keep2c lx ly cx1 cy1 (Below.refl _ _)
      | exact keep2c lx ly cx1 cy1 (Below.refl _ _).drew
      | (go_split_ands;exact keep2c lx ly cx1 cy1 (by assumption))
      | (go_split_ands;exact keep2c lx ly cx1 cy1 (below_step (by assumption) hbel)))
     (first | (go_at_call 106;refine (HC11.out _).mono ?_;rintro e wb ⟨rfl,hbel⟩))
    have hbel1:Below wa.heap.size wa wb:=by go_split_ands;assumption
    have HL:=Lib.hid (HL.out.on hbel1)
    clear hbel1 cx0 cx1 cx2 cx3 cy0 cy1 cy2 cy3 lx ly
    clear HC00 HC01 HC10 HC11 HC20 HC21 HC30 HC31 HFA HFL HR
    obtain ⟨cl0,cl1,cl2,cl3⟩:=cell_four HL.out.bl
    obtain ⟨ch0,ch1,ch2,ch3⟩:=cell_four HL.out.bh
    have ll:=lt_of_block HL.out.bl
    have lh:=lt_of_block HL.out.bh
    have frl:=frz4 (i:=1) HL.out.bl
    have frh:=frz4 (i:=1) HL.out.bh
    have nLH:¬L=H:=by have:=HL.out.ll.2.2.2;omega
    have nHL:¬H=L:=by omega
    have HL:=Lib.hid (HL.out.set1 (fitB (fl (s.1*t.2))).1 (fitB (cl (s.1*t.2))).1)
    generalize (fitB (fl (s.1*t.2))).2=o1 at *
    generalize (fitB (cl (s.1*t.2))).2=o2 at *
    cases F
    ·go_wp2
     go_roundw
     case rel=>exact ⟨2,by omega,rfl,by rw [HK.out];rfl,HL⟩
     case measure=>simp [intOf]
    ·cases o1
     ·go_wp2
      go_roundw
      case rel=>exact ⟨2,by omega,rfl,by rw [HK.out];rfl,HL⟩
      case measure=>simp [intOf]
     ·go_wp2
      go_roundw
      case rel=>exact ⟨2,by omega,rfl,by rw [HK.out];rfl,HL⟩
      case measure=>simp [intOf]
   ·have HK:Hid (ref2_mul_fk s t 3=(ref2_mul_fk s t 2 && (fitB (fl (s.2*t.1))).2 && (fitB (cl (s.2*t.1))).2)):=Lib.hid rfl
    generalize ref2_mul_fk s t 2=F at *
    obtain ⟨cx0,cx1,cx2,cx3⟩:=cell_four HL.out.mb.bx
    obtain ⟨cy0,cy1,cy2,cy3⟩:=cell_four HL.out.mb.by_
    have lx:=lt_of_block HL.out.mb.bx
    have ly:=lt_of_block HL.out.mb.by_
    go_wp2_with fail
    go_region_held3 (fun w'=>w'.cell? ⟨X,2,none⟩=some (.int .i64 s.2)/\w'.cell? ⟨Y,2,none⟩=some (.int .i64 t.1)/\Below wr.heap.size wr w')
     (first
      | exact keep2c lx ly cx2 cy2 (Below.refl _ _)
      | exact keep2c lx ly cx2 cy2 (Below.refl _ _).drew
      | (go_split_ands;exact keep2c lx ly cx2 cy2 (by assumption))
      | (go_split_ands;exact keep2c lx ly cx2 cy2 (below_step (by assumption) hbel)))
     (first | (go_at_call 106;refine (HC20.out _).mono ?_;rintro e wa ⟨rfl,hbel⟩))
    have hbel0:Below wr.heap.size wr wa:=by go_split_ands;assumption
    have HL:=Lib.hid (HL.out.on hbel0)
    clear hbel0 cx0 cx1 cx2 cx3 cy0 cy1 cy2 cy3 lx ly
    obtain ⟨cx0,cx1,cx2,cx3⟩:=cell_four HL.out.mb.bx
    obtain ⟨cy0,cy1,cy2,cy3⟩:=cell_four HL.out.mb.by_
    have lx:=lt_of_block HL.out.mb.bx
    have ly:=lt_of_block HL.out.mb.by_
    go_wp2_with fail
    go_region_held3 (fun w'=>w'.cell? ⟨X,2,none⟩=some (.int .i64 s.2)/\w'.cell? ⟨Y,2,none⟩=some (.int .i64 t.1)/\Below wa.heap.size wa w')
     (first
      | exact keep2c lx ly cx2 cy2 (Below.refl _ _)
      | exact keep2c lx ly cx2 cy2 (Below.refl _ _).drew
      | (go_split_ands;exact keep2c lx ly cx2 cy2 (by assumption))
      | (go_split_ands;exact keep2c lx ly cx2 cy2 (below_step (by assumption) hbel)))
     (first | (go_at_call 106;refine (HC21.out _).mono ?_;rintro e wb ⟨rfl,hbel⟩))
    have hbel1:Below wa.heap.size wa wb:=by go_split_ands;assumption
    have HL:=Lib.hid (HL.out.on hbel1)
    clear hbel1 cx0 cx1 cx2 cx3 cy0 cy1 cy2 cy3 lx ly
    clear HC00 HC01 HC10 HC11 HC20 HC21 HC30 HC31 HFA HFL HR
    obtain ⟨cl0,cl1,cl2,cl3⟩:=cell_four HL.out.bl
    obtain ⟨ch0,ch1,ch2,ch3⟩:=cell_four HL.out.bh
    have ll:=lt_of_block HL.out.bl
    have lh:=lt_of_block HL.out.bh
    have frl:=frz4 (i:=2) HL.out.bl
    have frh:=frz4 (i:=2) HL.out.bh
    have nLH:¬L=H:=by have:=HL.out.ll.2.2.2;omega
    have nHL:¬H=L:=by omega
    have HL:=Lib.hid (HL.out.set2 (fitB (fl (s.2*t.1))).1 (fitB (cl (s.2*t.1))).1)
    generalize (fitB (fl (s.2*t.1))).2=o1 at *
    generalize (fitB (cl (s.2*t.1))).2=o2 at *
    cases F
    ·go_wp2
     go_roundw
     case rel=>exact ⟨3,by omega,rfl,by rw [HK.out];rfl,HL⟩
     case measure=>simp [intOf]
    ·cases o1
     ·go_wp2
      go_roundw
      case rel=>exact ⟨3,by omega,rfl,by rw [HK.out];rfl,HL⟩
      case measure=>simp [intOf]
     ·go_wp2
      go_roundw
      case rel=>exact ⟨3,by omega,rfl,by rw [HK.out];rfl,HL⟩
      case measure=>simp [intOf]
   ·have HK:Hid (ref2_mul_fk s t 4=(ref2_mul_fk s t 3 && (fitB (fl (s.2*t.2))).2 && (fitB (cl (s.2*t.2))).2)):=Lib.hid rfl
    generalize ref2_mul_fk s t 3=F at *
    obtain ⟨cx0,cx1,cx2,cx3⟩:=cell_four HL.out.mb.bx
    obtain ⟨cy0,cy1,cy2,cy3⟩:=cell_four HL.out.mb.by_
    have lx:=lt_of_block HL.out.mb.bx
    have ly:=lt_of_block HL.out.mb.by_
    go_wp2_with fail
    go_region_held3 (fun w'=>w'.cell? ⟨X,3,none⟩=some (.int .i64 s.2)/\w'.cell? ⟨Y,3,none⟩=some (.int .i64 t.2)/\Below wr.heap.size wr w')
     (first
      | exact keep2c lx ly cx3 cy3 (Below.refl _ _)
      | exact keep2c lx ly cx3 cy3 (Below.refl _ _).drew
      | (go_split_ands;exact keep2c lx ly cx3 cy3 (by assumption))
      | (go_split_ands;exact keep2c lx ly cx3 cy3 (below_step (by assumption) hbel)))
     (first | (go_at_call 106;refine (HC30.out _).mono ?_;rintro e wa ⟨rfl,hbel⟩))
    have hbel0:Below wr.heap.size wr wa:=by go_split_ands;assumption
    have HL:=Lib.hid (HL.out.on hbel0)
    clear hbel0 cx0 cx1 cx2 cx3 cy0 cy1 cy2 cy3 lx ly
    obtain ⟨cx0,cx1,cx2,cx3⟩:=cell_four HL.out.mb.bx
    obtain ⟨cy0,cy1,cy2,cy3⟩:=cell_four HL.out.mb.by_
    have lx:=lt_of_block HL.out.mb.bx
    have ly:=lt_of_block HL.out.mb.by_
    go_wp2_with fail
    go_region_held3 (fun w'=>w'.cell? ⟨X,3,none⟩=some (.int .i64 s.2)/\w'.cell? ⟨Y,3,none⟩=some (.int .i64 t.2)/\Below wa.heap.size wa w')
     (first
      | exact keep2c lx ly cx3 cy3 (Below.refl _ _)
      | exact keep2c lx ly cx3 cy3 (Below.refl _ _).drew
      | (go_split_ands;exact keep2c lx ly cx3 cy3 (by assumption))
      | (go_split_ands;exact keep2c lx ly cx3 cy3 (below_step (by assumption) hbel)))
     (first | (go_at_call 106;refine (HC31.out _).mono ?_;rintro e wb ⟨rfl,hbel⟩))
    have hbel1:Below wa.heap.size wa wb:=by go_split_ands;assumption
    have HL:=Lib.hid (HL.out.on hbel1)
    clear hbel1 cx0 cx1 cx2 cx3 cy0 cy1 cy2 cy3 lx ly
    clear HC00 HC01 HC10 HC11 HC20 HC21 HC30 HC31 HFA HFL HR
    obtain ⟨cl0,cl1,cl2,cl3⟩:=cell_four HL.out.bl
    obtain ⟨ch0,ch1,ch2,ch3⟩:=cell_four HL.out.bh
    have ll:=lt_of_block HL.out.bl
    have lh:=lt_of_block HL.out.bh
    have frl:=frz4 (i:=3) HL.out.bl
    have frh:=frz4 (i:=3) HL.out.bh
    have nLH:¬L=H:=by have:=HL.out.ll.2.2.2;omega
    have nHL:¬H=L:=by omega
    have HL:=Lib.hid (HL.out.set3 (fitB (fl (s.2*t.2))).1 (fitB (cl (s.2*t.2))).1)
    generalize (fitB (fl (s.2*t.2))).2=o1 at *
    generalize (fitB (cl (s.2*t.2))).2=o2 at *
    cases F
    ·go_wp2
     go_roundw
     case rel=>exact ⟨4,by omega,rfl,by rw [HK.out];rfl,HL⟩
     case measure=>simp [intOf]
    ·cases o1
     ·go_wp2
      go_roundw
      case rel=>exact ⟨4,by omega,rfl,by rw [HK.out];rfl,HL⟩
      case measure=>simp [intOf]
     ·go_wp2
      go_roundw
      case rel=>exact ⟨4,by omega,rfl,by rw [HK.out];rfl,HL⟩
      case measure=>simp [intOf]
   ·have HL:Hid (ML w wr X Y L H (s.1) (s.1) (s.2) (s.2) (t.1) (t.2) (t.1) (t.2) (fitB (fl (s.1*t.1))).1 (fitB (fl (s.1*t.2))).1 (fitB (fl (s.2*t.1))).1 (fitB (fl (s.2*t.2))).1 (fitB (cl (s.1*t.1))).1 (fitB (cl (s.1*t.2))).1 (fitB (cl (s.2*t.1))).1 (fitB (cl (s.2*t.2))).1):=Lib.hid HL.out
    have HFA:Hid ((if ref2_mul_fk s t 4=true then sT (min4 (fitB (fl (s.1*t.1))).1 (fitB (fl (s.1*t.2))).1 (fitB (fl (s.2*t.1))).1 (fitB (fl (s.2*t.2))).1) (max4 (fitB (cl (s.1*t.1))).1 (fitB (cl (s.1*t.2))).1 (fitB (cl (s.2*t.1))).1 (fitB (cl (s.2*t.2))).1) else ((0,0),6))=sT (min4 (fl (s.1*t.1)) (fl (s.1*t.2)) (fl (s.2*t.1)) (fl (s.2*t.2))) (max4 (cl (s.1*t.1)) (cl (s.1*t.2)) (cl (s.2*t.1)) (cl (s.2*t.2)))):=Lib.hid HFA.out
    have HFL:Hid (ref2_mul_fk s t 4=true->min4 (fitB (fl (s.1*t.1))).1 (fitB (fl (s.1*t.2))).1 (fitB (fl (s.2*t.1))).1 (fitB (fl (s.2*t.2))).1<=max4 (fitB (cl (s.1*t.1))).1 (fitB (cl (s.1*t.2))).1 (fitB (cl (s.2*t.1))).1 (fitB (cl (s.2*t.2))).1):=Lib.hid HFL.out
    obtain ⟨cl0,cl1,cl2,cl3⟩:=cell_four HL.out.bl
    obtain ⟨ch0,ch1,ch2,ch3⟩:=cell_four HL.out.bh
    generalize ref2_mul_fk s t 4=F at *
    clear HC00 HC01 HC10 HC11 HC20 HC21 HC30 HC31
    go_wp2_with fail
    refine (ref2_four _ _ _ _ _ _ _ _ F HFL.out _).mono ?_;rintro e w9 ⟨rfl,hbel⟩
    rw [HFA.out,←HR.out]
    have hB:=HL.out.mb.on hbel
    clear hbel cl0 cl1 cl2 cl3 ch0 ch1 ch2 ch3
    have c0:=cell_two0 hB.b2
    have c1:=cell_two1 hB.b2
    have f0:=free_two (i:=0) hB.b2
    have f1:=free_two (i:=1) hB.b2
    have l2:=lt_of_block hB.b2
    go_wp2_with fail
    exact bodyPost_ret (v:=.tuple #[.agg #[.int .i64 (sMul s t).1.1,.int .i64 (sMul s t).1.2],.int .i64 (sMul s t).2]) (by simp [results,Tryz.results91,go_sem,c0,c1]) rfl ⟨rfl,below_set2 hB.bel (by omega) _ _⟩

set_option maxHeartbeats 1000000 in
theorem ref2_Mul (s t:Int×Int) (w:World) :
  Calls Tryz.prog 91 #[.agg #[.int .i64 s.1,.int .i64 s.2],.agg #[.int .i64 t.1,.int .i64 t.2]] w fun e w'=>e=.returned (.tuple #[.agg #[.int .i64 (sMul s t).1.1,.int .i64 (sMul s t).1.2],.int .i64 (sMul s t).2])/\Below w.heap.size w w':=by
 by_cases hs:okS s
 ·by_cases ht:okS t
  ·exact ref2_Mul_ok s t w hs ht
  ·have hB:=Bx3.start w s t
   have HS:=Lib.hid hs
   have HT:=Lib.hid ht
   have HR:=Lib.hid (show sMul s t=((0,0),20) from on2_bad (fun g=>ht g.2))
   clear hs ht
   go_enter Tryz.func91,Tryz.ntmps91
   go_wp2_with fail
   refine (ref2_Right_ok HS.out _).mono ?_;rintro e w2 ⟨rfl,hbel⟩
   have hB:=hB.on hbel
   clear hbel
   have a0:=cell_two0 hB.b0
   have a1:=cell_two1 hB.b0
   have b0:=cell_two0 hB.b1
   have b1:=cell_two1 hB.b1
   go_wp2_with fail
   refine (ref2_Right_bad HT.out _).mono ?_;rintro e w3 ⟨rfl,hbel⟩
   have hB:=hB.on hbel
   clear hbel a0 a1 b0 b1
   have c0:=cell_two0 hB.b2
   have c1:=cell_two1 hB.b2
   have f0:=free_two (i:=0) hB.b2
   have f1:=free_two (i:=1) hB.b2
   have l2:=lt_of_block hB.b2
   go_wp2_with fail
   exact bodyPost_ret (v:=.tuple #[.agg #[.int .i64 0,.int .i64 0],.int .i64 20]) (by simp [results,Tryz.results91,go_sem,c0,c1]) rfl ⟨ret_sp HR.out,below_set2 hB.bel (by omega) _ _⟩
 ·have hB:=Bx3.start w s t
  have HS:=Lib.hid hs
  have HR:=Lib.hid (show sMul s t=((0,0),20) from on2_bad (fun g=>hs g.1))
  clear hs
  go_enter Tryz.func91,Tryz.ntmps91
  go_wp2_with fail
  refine (ref2_Right_bad HS.out _).mono ?_;rintro e w2 ⟨rfl,hbel⟩
  have hB:=hB.on hbel
  clear hbel
  have c0:=cell_two0 hB.b2
  have c1:=cell_two1 hB.b2
  have f0:=free_two (i:=0) hB.b2
  have f1:=free_two (i:=1) hB.b2
  have l2:=lt_of_block hB.b2
  go_wp2_with fail
  exact bodyPost_ret (v:=.tuple #[.agg #[.int .i64 0,.int .i64 0],.int .i64 20]) (by simp [results,Tryz.results91,go_sem,c0,c1]) rfl ⟨ret_sp HR.out,below_set2 hB.bel (by omega) _ _⟩
end Go.Proofs.YthhkcfpljgdnhaaGreat

/- Contracts of the reference of layer 2: Of, Point, Neg, Abs, Meet; alike of law 02. Printed by wip/genSR.py. -/
namespace Mnc
open Go
end Mnc
namespace Go.Proofs.YthhkcfpljgdnhaaGreat
open Go.RowKit Mnc

end Go.Proofs.YthhkcfpljgdnhaaGreat
