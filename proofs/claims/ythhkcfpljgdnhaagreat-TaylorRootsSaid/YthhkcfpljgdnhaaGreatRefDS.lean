/- Blocks of one's own; square roots of intervals, plainly. -/
import Derived.Test.YthhkcfpljgdnhaaGreatRefSX
import Derived.Test.YthhkcfpljgdnhaaGreatPl
import Derived.BigRegion
import Derived.Deep.RegionHeld3
import Derived.Test.YthhkcfpljgdnhaaGreatRegX
import Derived.Test.YthhkcfpljgdnhaaGreatTayC
set_option maxRecDepth 100000
set_option maxHeartbeats 4000000
namespace Mnc
open Go
theorem sSqrt_ok {a:Int×Int} (h:okS a) (h0:0<=a.1):sSqrt a=((((rtOf false (a.1.toNat*4294967296):Nat):Int),((rtOf true (a.2.toNat*4294967296):Nat):Int)),0):=by
 have e:sSqrt a=_:=on1_ok h
 rw [e]
 try simp only
 rw [if_neg (by omega),rt_ok false h.lo h0,rt_ok true h.hi (by have:=h.2.1;omega)]
theorem sSqrt_neg {a:Int×Int} (h:okS a) (h0:¬0<=a.1):sSqrt a=((0,0),2):=by
 have e:sSqrt a=_:=on1_ok h
 rw [e]
 try simp only
 rw [if_pos (by omega)]
end Mnc
namespace Go.Proofs.YthhkcfpljgdnhaaGreat
open Go.RowKit Mnc
/-- Blocks of one's own. -/
structure Kv (w W:World) (bs:List (Nat×Obj)):Prop where
 bel:Below w.heap.size w W
 blk:∀p∈bs,W.heap[p.1]?=some p.2
section
variable {w W W':World} {B:Nat} {bs cs:List (Nat×Obj)}
theorem Kv.start (w:World):Kv w w []:=⟨Below.refl _ _,fun p hp=>by simp at hp⟩
theorem Kv.al (h:Kv w W bs) (o:Obj) {n:Nat} (hn:W.heap.size=n):Kv w (W.alloc o) ((n,o)::bs):=by
 subst hn
 refine ⟨below_alloc h.bel _,fun p hp=>?_⟩
 rcases List.mem_cons.1 hp with rfl | hp
 ·exact heap_at _ rfl
 ·exact heap_up _ (h.blk p hp)
theorem Kv.on (h:Kv w W bs) (k:Below W.heap.size W W'):Kv w W' bs:=⟨below_step h.bel k,fun p hp=>(k.block _ (lt_of_block (h.blk p hp))).trans (h.blk p hp)⟩
theorem Kv.sub (h:Kv w W bs) (k:∀p∈cs,p∈bs):Kv w W cs:=⟨h.bel,fun p hp=>h.blk p (k p hp)⟩
theorem Kv.put {o:Obj} (h:Kv w W bs) (k:Below W.heap.size W W') (hB:W'.heap[B]?=some o):Kv w W' ((B,o)::bs) :=
 ⟨(h.on k).bel,fun p hp=>by
  rcases List.mem_cons.1 hp with rfl | hp
  ·exact hB
  ·exact (h.on k).blk p hp⟩
/-- A box of two cells is written. -/
theorem Kv.st2 {x y:Value} {t:TypeId} (h:Kv w W ((B,.cells #[x,y] t (0,0))::bs)) (hB:w.heap.size<=B) (hb:∀p∈bs,p.1≠B) (u v:Value) :
  Kv w ((W.setCell ⟨B,0,none⟩ u).setCell ⟨B,1,none⟩ v) ((B,.cells #[u,v] t (0,0))::bs):=by
 have h0:=h.blk _ (List.mem_cons_self ..)
 refine ⟨(h.bel.setCell hB _).setCell hB _,fun p hp=>?_⟩
 rcases List.mem_cons.1 hp with rfl | hp
 ·simp only
  rw [heap_setCell_same _ _ _ _ _ _ (heap_setCell_same _ _ _ _ _ _ h0)]
  rfl
 ·rw [heap_setCell_other _ _ _ _ (by simpa using hb p hp),heap_setCell_other _ _ _ _ (by simpa using hb p hp)]
  exact h.blk p (List.mem_cons_of_mem _ hp)
end
/-- A box of an interval is written. -/
theorem Kv.setb {w W:World} {bs cs:List (Nat×Obj)} {B:Nat} {a:Int×Int} (h:Kv w W bs) (hm:(B,Obj.cells #[.int .i64 a.1,.int .i64 a.2] 31 (0,0))∈bs) (hB:w.heap.size<=B) (z:Int×Int) (hc:∀p∈cs,p=(B,Obj.cells #[.int .i64 z.1,.int .i64 z.2] 31 (0,0))∨(p∈bs/\p.1≠B)) :
  Kv w ((W.setCell ⟨B,0,none⟩ (.int .i64 z.1)).setCell ⟨B,1,none⟩ (.int .i64 z.2)) cs:=by
 have h2:Kv w W ((B,Obj.cells #[.int .i64 a.1,.int .i64 a.2] 31 (0,0))::bs.filter fun p=>p.1≠B):=h.sub (fun p hp=>by
  rcases List.mem_cons.1 hp with rfl | hp
  ·exact hm
  ·exact (List.mem_filter.1 hp).1)
 refine (h2.st2 hB (fun p hp=>by simpa using (List.mem_filter.1 hp).2) (.int .i64 z.1) (.int .i64 z.2)).sub fun p hp=>?_
 rcases hc p hp with rfl | ⟨h1,h2⟩
 ·exact List.mem_cons_self ..
 ·exact List.mem_cons_of_mem _ (List.mem_filter.2 ⟨h1,by simpa using h2⟩)
end Go.Proofs.YthhkcfpljgdnhaaGreat
namespace Go.Proofs.YthhkcfpljgdnhaaGreat
open Go.RowKit Mnc
def ref2_div_fk (s t:Int×Int):Nat->Bool
 | 0=>true
 | 1=>(true && (fitB (dv false (s.1) (t.1))).2 && (fitB (dv true (s.1) (t.1))).2)
 | 2=>((true && (fitB (dv false (s.1) (t.1))).2 && (fitB (dv true (s.1) (t.1))).2) && (fitB (dv false (s.1) (t.2))).2 && (fitB (dv true (s.1) (t.2))).2)
 | 3=>(((true && (fitB (dv false (s.1) (t.1))).2 && (fitB (dv true (s.1) (t.1))).2) && (fitB (dv false (s.1) (t.2))).2 && (fitB (dv true (s.1) (t.2))).2) && (fitB (dv false (s.2) (t.1))).2 && (fitB (dv true (s.2) (t.1))).2)
 | _=>((((true && (fitB (dv false (s.1) (t.1))).2 && (fitB (dv true (s.1) (t.1))).2) && (fitB (dv false (s.1) (t.2))).2 && (fitB (dv true (s.1) (t.2))).2) && (fitB (dv false (s.2) (t.1))).2 && (fitB (dv true (s.2) (t.1))).2) && (fitB (dv false (s.2) (t.2))).2 && (fitB (dv true (s.2) (t.2))).2)
theorem ref2_Div_pos (s t:Int×Int) (w:World) (hs:okS s) (ht:okS t) (hz:¬(t.1<=0/\0<=t.2)) (hp:0<t.1) :
  Calls Tryz.prog 83 #[.agg #[.int .i64 s.1,.int .i64 s.2],.agg #[.int .i64 t.1,.int .i64 t.2]] w fun e w'=>e=.returned (.tuple #[.agg #[.int .i64 (sDiv s t).1.1,.int .i64 (sDiv s t).1.2],.int .i64 (sDiv s t).2])/\Below w.heap.size w w':=by
 have hB:=Bx3.start w s t
 have HS:=Lib.hid hs
 have HT:=Lib.hid ht
 have hle0:dv false (s.1) (t.1)<=dv true (s.1) (t.1):=(rnd_le (by have:=ht.2.1;omega))
 have hle1:dv false (s.1) (t.2)<=dv true (s.1) (t.2):=(rnd_le (by have:=ht.2.1;omega))
 have hle2:dv false (s.2) (t.1)<=dv true (s.2) (t.1):=(rnd_le (by have:=ht.2.1;omega))
 have hle3:dv false (s.2) (t.2)<=dv true (s.2) (t.2):=(rnd_le (by have:=ht.2.1;omega))
 have HFA:=Lib.hid (fitB_and _ _ _ _ _ _ _ _ hle0 hle1 hle2 hle3)
 have HFL:=Lib.hid (fun h=>fitB_le hle0 hle1 hle2 hle3 h)
 have HR:=Lib.hid (show sDiv s t=sT (min4 (dv false (s.1) (t.1)) (dv false (s.1) (t.2)) (dv false (s.2) (t.1)) (dv false (s.2) (t.2))) (max4 (dv true (s.1) (t.1)) (dv true (s.1) (t.2)) (dv true (s.2) (t.1)) (dv true (s.2) (t.2))) from (on2_ok hs ht).trans (if_neg hz))
 have HC00:=Lib.hid (fun W=>(ref1_Div (s.1) (t.1) false HS.out.lo HT.out.lo (fun g=>hz (by have:=ht.2.1;omega)) W))
 have HC01:=Lib.hid (fun W=>(ref1_Div (s.1) (t.1) true HS.out.lo HT.out.lo (fun g=>hz (by have:=ht.2.1;omega)) W))
 have HC10:=Lib.hid (fun W=>(ref1_Div (s.1) (t.2) false HS.out.lo HT.out.hi (fun g=>hz (by have:=ht.2.1;omega)) W))
 have HC11:=Lib.hid (fun W=>(ref1_Div (s.1) (t.2) true HS.out.lo HT.out.hi (fun g=>hz (by have:=ht.2.1;omega)) W))
 have HC20:=Lib.hid (fun W=>(ref1_Div (s.2) (t.1) false HS.out.hi HT.out.lo (fun g=>hz (by have:=ht.2.1;omega)) W))
 have HC21:=Lib.hid (fun W=>(ref1_Div (s.2) (t.1) true HS.out.hi HT.out.lo (fun g=>hz (by have:=ht.2.1;omega)) W))
 have HC30:=Lib.hid (fun W=>(ref1_Div (s.2) (t.2) false HS.out.hi HT.out.hi (fun g=>hz (by have:=ht.2.1;omega)) W))
 have HC31:=Lib.hid (fun W=>(ref1_Div (s.2) (t.2) true HS.out.hi HT.out.hi (fun g=>hz (by have:=ht.2.1;omega)) W))
 obtain ⟨t1,t2,t3⟩:=ht
 clear hs hz hle0 hle1 hle2 hle3 t1 t2 t3
 go_enter Tryz.func83,Tryz.ntmps83
 go_wp2_with fail
 refine (ref2_Right_ok HS.out _).mono ?_;rintro e w2 ⟨rfl,hbel⟩
 have hB:=hB.on hbel
 clear hbel
 have a0:=cell_two0 hB.b0
 have a1:=cell_two1 hB.b0
 have b0:=cell_two0 hB.b1
 have b1:=cell_two1 hB.b1
 go_wp2_with fail
 refine (ref2_Right_ok HT.out _).mono ?_;rintro e w3 ⟨rfl,hbel⟩
 have hB:=hB.on hbel
 clear hbel a0 a1 b0 b1
 have a0:=cell_two0 hB.b0
 have a1:=cell_two1 hB.b0
 have b0:=cell_two0 hB.b1
 have b1:=cell_two1 hB.b1
 have l0:=lt_of_block hB.b0
 have l1:=lt_of_block hB.b1
 go_wp2_with fail
 go_region_held3 (fun w'=>w'.cell? ⟨w.heap.size,0,none⟩=some (.int .i64 s.1)/\w'.cell? ⟨w.heap.size,1,none⟩=some (.int .i64 s.2)/\w'.cell? ⟨w.heap.size+1,0,none⟩=some (.int .i64 t.1)/\w'.cell? ⟨w.heap.size+1,1,none⟩=some (.int .i64 t.2))
  (first
   | exact keep4 l0 l1 a0 a1 b0 b1 (by first | exact Below.refl _ _ | exact (Below.refl _ _).drew | exact below_alloc (Below.refl _ _).drew _ | exact below_alloc (below_alloc (Below.refl _ _).drew _) _ | exact (below_alloc (Below.refl _ _) _).drew | exact (below_alloc (below_alloc (Below.refl _ _) _) _).drew)
   | (go_split_ands;exact keep4 l0 l1 a0 a1 b0 b1 (by first | exact Below.refl _ _ | exact (Below.refl _ _).drew | exact below_alloc (Below.refl _ _).drew _ | exact below_alloc (below_alloc (Below.refl _ _).drew _) _ | exact (below_alloc (Below.refl _ _) _).drew | exact (below_alloc (below_alloc (Below.refl _ _) _) _).drew)))
  (fail)
 focus
  have hM:=mb1 hB (s.1) (s.1) (s.2) (s.2) (t.1) (t.2) (t.1) (t.2)
  clear hB a0 a1 b0 b1 l0 l1
  generalize ((w3.alloc (.cells #[.int .i64 s.1,.int .i64 s.1,.int .i64 s.2,.int .i64 s.2] 123)).alloc (.cells #[.int .i64 t.1,.int .i64 t.2,.int .i64 t.1,.int .i64 t.2] 123)).drew=W4 at *
  generalize w3.heap.size+1=Y at *
  generalize w3.heap.size=X at *
 rotate_left
 focus
  have hM:=mb2 hB (s.1) (s.1) (s.2) (s.2) (t.1) (t.2) (t.1) (t.2)
  clear hB a0 a1 b0 b1 l0 l1
  generalize ((w3.alloc (.cells #[.int .i64 t.1,.int .i64 t.2,.int .i64 t.1,.int .i64 t.2] 123)).alloc (.cells #[.int .i64 s.1,.int .i64 s.1,.int .i64 s.2,.int .i64 s.2] 123)).drew=W4 at *
  generalize w3.heap.size+1=X at *
  generalize w3.heap.size=Y at *
 all_goals
  have hL:=ML.start hM
  have HLs:=Lib.hid (show W4.heap.size<W4.heap.size+1+1 by omega)
  go_wp2_with fail
  generalize ((W4.alloc (.cells #[.int .i64 0,.int .i64 0,.int .i64 0,.int .i64 0] 123)).alloc (.cells #[.int .i64 0,.int .i64 0,.int .i64 0,.int .i64 0] 123))=W5 at *
  clear hM HLs
  generalize W4.heap.size+1=H at *
  generalize W4.heap.size=L at *
  go_loopw [10,11] (fun f i wr=>∃k:Nat,k<=4/\i=.int .i64 k/\f=.bool (ref2_div_fk s t k)/\Hid (ML w wr X Y L H (s.1) (s.1) (s.2) (s.2) (t.1) (t.2) (t.1) (t.2) (lk (fitB (dv false (s.1) (t.1))).1 0 k) (lk (fitB (dv false (s.1) (t.2))).1 1 k) (lk (fitB (dv false (s.2) (t.1))).1 2 k) (lk (fitB (dv false (s.2) (t.2))).1 3 k) (lk (fitB (dv true (s.1) (t.1))).1 0 k) (lk (fitB (dv true (s.1) (t.2))).1 1 k) (lk (fitB (dv true (s.2) (t.1))).1 2 k) (lk (fitB (dv true (s.2) (t.2))).1 3 k))) (fun _ i _=>4-(intOf i).toNat)
  case atStart=>exact ⟨0,by omega,rfl,rfl,Lib.hid hL⟩
  case round =>
   clear hL
   obtain ⟨k,hk,rfl,rfl,HL⟩:=hrel
   rcases (by omega:k=0∨k=1∨k=2∨k=3∨k=4) with rfl | rfl | rfl | rfl | rfl
   ·have HK:Hid (ref2_div_fk s t 1=(ref2_div_fk s t 0 && (fitB (dv false (s.1) (t.1))).2 && (fitB (dv true (s.1) (t.1))).2)):=Lib.hid rfl
    generalize ref2_div_fk s t 0=F at *
    obtain ⟨cx0,cx1,cx2,cx3⟩:=cell_four HL.out.mb.bx
    obtain ⟨cy0,cy1,cy2,cy3⟩:=cell_four HL.out.mb.by_
    have lx:=lt_of_block HL.out.mb.bx
    have ly:=lt_of_block HL.out.mb.by_
    go_wp2_with fail
    go_region_held3 (fun w'=>w'.cell? ⟨X,0,none⟩=some (.int .i64 s.1)/\w'.cell? ⟨Y,0,none⟩=some (.int .i64 t.1)/\Below wr.heap.size wr w')
     (first
      | exact keep2c lx ly cx0 cy0 (Below.refl _ _)
      | exact keep2c lx ly cx0 cy0 (Below.refl _ _).drew
      | (go_split_ands;exact keep2c lx ly cx0 cy0 (by assumption))
      | (go_split_ands;exact keep2c lx ly cx0 cy0 (below_step (by assumption) hbel)))
     (first | (go_at_call 100;refine (HC00.out _).mono ?_;rintro e wa ⟨rfl,hbel⟩))
    have hbel0:Below wr.heap.size wr wa:=by go_split_ands;assumption
    have HL:=Lib.hid (HL.out.on hbel0)
    clear hbel0 cx0 cx1 cx2 cx3 cy0 cy1 cy2 cy3 lx ly
    obtain ⟨cx0,cx1,cx2,cx3⟩:=cell_four HL.out.mb.bx
    obtain ⟨cy0,cy1,cy2,cy3⟩:=cell_four HL.out.mb.by_
    have lx:=lt_of_block HL.out.mb.bx
    have ly:=lt_of_block HL.out.mb.by_
    go_wp2_with fail
    go_region_held3 (fun w'=>w'.cell? ⟨X,0,none⟩=some (.int .i64 s.1)/\w'.cell? ⟨Y,0,none⟩=some (.int .i64 t.1)/\Below wa.heap.size wa w')
     (first
      | exact keep2c lx ly cx0 cy0 (Below.refl _ _)
      | exact keep2c lx ly cx0 cy0 (Below.refl _ _).drew
      | (go_split_ands;exact keep2c lx ly cx0 cy0 (by assumption))
      | (go_split_ands;exact keep2c lx ly cx0 cy0 (below_step (by assumption) hbel)))
     (first | (go_at_call 100;refine (HC01.out _).mono ?_;rintro e wb ⟨rfl,hbel⟩))
    have hbel1:Below wa.heap.size wa wb:=by go_split_ands;assumption
    have HL:=Lib.hid (HL.out.on hbel1)
    clear hbel1 cx0 cx1 cx2 cx3 cy0 cy1 cy2 cy3 lx ly
    clear HC00 HC01 HC10 HC11 HC20 HC21 HC30 HC31 HFA HFL HR
    obtain ⟨cl0,cl1,cl2,cl3⟩:=cell_four HL.out.bl
    obtain ⟨ch0,ch1,ch2,ch3⟩:=cell_four HL.out.bh
    have ll:=lt_of_block HL.out.bl
    have lh:=lt_of_block HL.out.bh
    have frl:=frz4 (i:=0) HL.out.bl
    have frh:=frz4 (i:=0) HL.out.bh
    have nLH:¬L=H:=by have:=HL.out.ll.2.2.2;omega
    have nHL:¬H=L:=by omega
    have HL:=Lib.hid (HL.out.set0 (fitB (dv false (s.1) (t.1))).1 (fitB (dv true (s.1) (t.1))).1)
    generalize (fitB (dv false (s.1) (t.1))).2=o1 at *
    generalize (fitB (dv true (s.1) (t.1))).2=o2 at *
    cases F
    ·go_wp2
     go_roundw
     case rel=>exact ⟨1,by omega,rfl,by rw [HK.out];rfl,HL⟩
     case measure=>simp [intOf]
    ·cases o1
     ·go_wp2
      go_roundw
      case rel=>exact ⟨1,by omega,rfl,by rw [HK.out];rfl,HL⟩
      case measure=>simp [intOf]
     ·go_wp2
      go_roundw
      case rel=>exact ⟨1,by omega,rfl,by rw [HK.out];rfl,HL⟩
      case measure=>simp [intOf]
   ·have HK:Hid (ref2_div_fk s t 2=(ref2_div_fk s t 1 && (fitB (dv false (s.1) (t.2))).2 && (fitB (dv true (s.1) (t.2))).2)):=Lib.hid rfl
    generalize ref2_div_fk s t 1=F at *
    obtain ⟨cx0,cx1,cx2,cx3⟩:=cell_four HL.out.mb.bx
    obtain ⟨cy0,cy1,cy2,cy3⟩:=cell_four HL.out.mb.by_
    have lx:=lt_of_block HL.out.mb.bx
    have ly:=lt_of_block HL.out.mb.by_
    go_wp2_with fail
    go_region_held3 (fun w'=>w'.cell? ⟨X,1,none⟩=some (.int .i64 s.1)/\w'.cell? ⟨Y,1,none⟩=some (.int .i64 t.2)/\Below wr.heap.size wr w')
     (first
      | exact keep2c lx ly cx1 cy1 (Below.refl _ _)
      | exact keep2c lx ly cx1 cy1 (Below.refl _ _).drew
      | (go_split_ands;exact keep2c lx ly cx1 cy1 (by assumption))
      | (go_split_ands;exact keep2c lx ly cx1 cy1 (below_step (by assumption) hbel)))
     (first | (go_at_call 100;refine (HC10.out _).mono ?_;rintro e wa ⟨rfl,hbel⟩))
    have hbel0:Below wr.heap.size wr wa:=by go_split_ands;assumption
    have HL:=Lib.hid (HL.out.on hbel0)
    clear hbel0 cx0 cx1 cx2 cx3 cy0 cy1 cy2 cy3 lx ly
    obtain ⟨cx0,cx1,cx2,cx3⟩:=cell_four HL.out.mb.bx
    obtain ⟨cy0,cy1,cy2,cy3⟩:=cell_four HL.out.mb.by_
    have lx:=lt_of_block HL.out.mb.bx
    have ly:=lt_of_block HL.out.mb.by_
    go_wp2_with fail
    go_region_held3 (fun w'=>w'.cell? ⟨X,1,none⟩=some (.int .i64 s.1)/\w'.cell? ⟨Y,1,none⟩=some (.int .i64 t.2)/\Below wa.heap.size wa w')
     (first
      | exact keep2c lx ly cx1 cy1 (Below.refl _ _)
      | exact keep2c lx ly cx1 cy1 (Below.refl _ _).drew
      | (go_split_ands;exact keep2c lx ly cx1 cy1 (by assumption))
      | (go_split_ands;exact keep2c lx ly cx1 cy1 (below_step (by assumption) hbel)))
     (first | (go_at_call 100;refine (HC11.out _).mono ?_;rintro e wb ⟨rfl,hbel⟩))
    have hbel1:Below wa.heap.size wa wb:=by go_split_ands;assumption
    have HL:=Lib.hid (HL.out.on hbel1)
    clear hbel1 cx0 cx1 cx2 cx3 cy0 cy1 cy2 cy3 lx ly
    clear HC00 HC01 HC10 HC11 HC20 HC21 HC30 HC31 HFA HFL HR
    obtain ⟨cl0,cl1,cl2,cl3⟩:=cell_four HL.out.bl
    obtain ⟨ch0,ch1,ch2,ch3⟩:=cell_four HL.out.bh
    have ll:=lt_of_block HL.out.bl
    have lh:=lt_of_block HL.out.bh
    have frl:=frz4 (i:=1) HL.out.bl
    have frh:=frz4 (i:=1) HL.out.bh
    have nLH:¬L=H:=by have:=HL.out.ll.2.2.2;omega
    have nHL:¬H=L:=by omega
    have HL:=Lib.hid (HL.out.set1 (fitB (dv false (s.1) (t.2))).1 (fitB (dv true (s.1) (t.2))).1)
    generalize (fitB (dv false (s.1) (t.2))).2=o1 at *
    generalize (fitB (dv true (s.1) (t.2))).2=o2 at *
    cases F
    ·go_wp2
     go_roundw
     case rel=>exact ⟨2,by omega,rfl,by rw [HK.out];rfl,HL⟩
     case measure=>simp [intOf]
    ·cases o1
     ·go_wp2
      go_roundw
      case rel=>exact ⟨2,by omega,rfl,by rw [HK.out];rfl,HL⟩
      case measure=>simp [intOf]
     ·go_wp2
      go_roundw
      case rel=>exact ⟨2,by omega,rfl,by rw [HK.out];rfl,HL⟩
      case measure=>simp [intOf]
   ·have HK:Hid (ref2_div_fk s t 3=(ref2_div_fk s t 2 && (fitB (dv false (s.2) (t.1))).2 && (fitB (dv true (s.2) (t.1))).2)):=Lib.hid rfl
    generalize ref2_div_fk s t 2=F at *
    obtain ⟨cx0,cx1,cx2,cx3⟩:=cell_four HL.out.mb.bx
    obtain ⟨cy0,cy1,cy2,cy3⟩:=cell_four HL.out.mb.by_
    have lx:=lt_of_block HL.out.mb.bx
    have ly:=lt_of_block HL.out.mb.by_
    go_wp2_with fail
    go_region_held3 (fun w'=>w'.cell? ⟨X,2,none⟩=some (.int .i64 s.2)/\w'.cell? ⟨Y,2,none⟩=some (.int .i64 t.1)/\Below wr.heap.size wr w')
     (first
      | exact keep2c lx ly cx2 cy2 (Below.refl _ _)
      | exact keep2c lx ly cx2 cy2 (Below.refl _ _).drew
      | (go_split_ands;exact keep2c lx ly cx2 cy2 (by assumption))
      | (go_split_ands;exact keep2c lx ly cx2 cy2 (below_step (by assumption) hbel)))
     (first | (go_at_call 100;refine (HC20.out _).mono ?_;rintro e wa ⟨rfl,hbel⟩))
    have hbel0:Below wr.heap.size wr wa:=by go_split_ands;assumption
    have HL:=Lib.hid (HL.out.on hbel0)
    clear hbel0 cx0 cx1 cx2 cx3 cy0 cy1 cy2 cy3 lx ly
    obtain ⟨cx0,cx1,cx2,cx3⟩:=cell_four HL.out.mb.bx
    obtain ⟨cy0,cy1,cy2,cy3⟩:=cell_four HL.out.mb.by_
    have lx:=lt_of_block HL.out.mb.bx
    have ly:=lt_of_block HL.out.mb.by_
    go_wp2_with fail
    go_region_held3 (fun w'=>w'.cell? ⟨X,2,none⟩=some (.int .i64 s.2)/\w'.cell? ⟨Y,2,none⟩=some (.int .i64 t.1)/\Below wa.heap.size wa w')
     (first
      | exact keep2c lx ly cx2 cy2 (Below.refl _ _)
      | exact keep2c lx ly cx2 cy2 (Below.refl _ _).drew
      | (go_split_ands;exact keep2c lx ly cx2 cy2 (by assumption))
      | (go_split_ands;exact keep2c lx ly cx2 cy2 (below_step (by assumption) hbel)))
     (first | (go_at_call 100;refine (HC21.out _).mono ?_;rintro e wb ⟨rfl,hbel⟩))
    have hbel1:Below wa.heap.size wa wb:=by go_split_ands;assumption
    have HL:=Lib.hid (HL.out.on hbel1)
    clear hbel1 cx0 cx1 cx2 cx3 cy0 cy1 cy2 cy3 lx ly
    clear HC00 HC01 HC10 HC11 HC20 HC21 HC30 HC31 HFA HFL HR
    obtain ⟨cl0,cl1,cl2,cl3⟩:=cell_four HL.out.bl
    obtain ⟨ch0,ch1,ch2,ch3⟩:=cell_four HL.out.bh
    have ll:=lt_of_block HL.out.bl
    have lh:=lt_of_block HL.out.bh
    have frl:=frz4 (i:=2) HL.out.bl
    have frh:=frz4 (i:=2) HL.out.bh
    have nLH:¬L=H:=by have:=HL.out.ll.2.2.2;omega
    have nHL:¬H=L:=by omega
    have HL:=Lib.hid (HL.out.set2 (fitB (dv false (s.2) (t.1))).1 (fitB (dv true (s.2) (t.1))).1)
    generalize (fitB (dv false (s.2) (t.1))).2=o1 at *
    generalize (fitB (dv true (s.2) (t.1))).2=o2 at *
    cases F
    ·go_wp2
     go_roundw
     case rel=>exact ⟨3,by omega,rfl,by rw [HK.out];rfl,HL⟩
     case measure=>simp [intOf]
    ·cases o1
     ·go_wp2
      go_roundw
      case rel=>exact ⟨3,by omega,rfl,by rw [HK.out];rfl,HL⟩
      case measure=>simp [intOf]
     ·go_wp2
      go_roundw
      case rel=>exact ⟨3,by omega,rfl,by rw [HK.out];rfl,HL⟩
      case measure=>simp [intOf]
   ·have HK:Hid (ref2_div_fk s t 4=(ref2_div_fk s t 3 && (fitB (dv false (s.2) (t.2))).2 && (fitB (dv true (s.2) (t.2))).2)):=Lib.hid rfl
    generalize ref2_div_fk s t 3=F at *
    obtain ⟨cx0,cx1,cx2,cx3⟩:=cell_four HL.out.mb.bx
    obtain ⟨cy0,cy1,cy2,cy3⟩:=cell_four HL.out.mb.by_
    have lx:=lt_of_block HL.out.mb.bx
    have ly:=lt_of_block HL.out.mb.by_
    go_wp2_with fail
    go_region_held3 (fun w'=>w'.cell? ⟨X,3,none⟩=some (.int .i64 s.2)/\w'.cell? ⟨Y,3,none⟩=some (.int .i64 t.2)/\Below wr.heap.size wr w')
     (first
      | exact keep2c lx ly cx3 cy3 (Below.refl _ _)
      | exact keep2c lx ly cx3 cy3 (Below.refl _ _).drew
      | (go_split_ands;exact keep2c lx ly cx3 cy3 (by assumption))
      | (go_split_ands;exact keep2c lx ly cx3 cy3 (below_step (by assumption) hbel)))
     (first | (go_at_call 100;refine (HC30.out _).mono ?_;rintro e wa ⟨rfl,hbel⟩))
    have hbel0:Below wr.heap.size wr wa:=by go_split_ands;assumption
    have HL:=Lib.hid (HL.out.on hbel0)
    clear hbel0 cx0 cx1 cx2 cx3 cy0 cy1 cy2 cy3 lx ly
    obtain ⟨cx0,cx1,cx2,cx3⟩:=cell_four HL.out.mb.bx
    obtain ⟨cy0,cy1,cy2,cy3⟩:=cell_four HL.out.mb.by_
    have lx:=lt_of_block HL.out.mb.bx
    have ly:=lt_of_block HL.out.mb.by_
    go_wp2_with fail
    go_region_held3 (fun w'=>w'.cell? ⟨X,3,none⟩=some (.int .i64 s.2)/\w'.cell? ⟨Y,3,none⟩=some (.int .i64 t.2)/\Below wa.heap.size wa w')
     (first
      | exact keep2c lx ly cx3 cy3 (Below.refl _ _)
      | exact keep2c lx ly cx3 cy3 (Below.refl _ _).drew
      | (go_split_ands;exact keep2c lx ly cx3 cy3 (by assumption))
      | (go_split_ands;exact keep2c lx ly cx3 cy3 (below_step (by assumption) hbel)))
     (first | (go_at_call 100;refine (HC31.out _).mono ?_;rintro e wb ⟨rfl,hbel⟩))
    have hbel1:Below wa.heap.size wa wb:=by go_split_ands;assumption
    have HL:=Lib.hid (HL.out.on hbel1)
    clear hbel1 cx0 cx1 cx2 cx3 cy0 cy1 cy2 cy3 lx ly
    clear HC00 HC01 HC10 HC11 HC20 HC21 HC30 HC31 HFA HFL HR
    obtain ⟨cl0,cl1,cl2,cl3⟩:=cell_four HL.out.bl
    obtain ⟨ch0,ch1,ch2,ch3⟩:=cell_four HL.out.bh
    have ll:=lt_of_block HL.out.bl
    have lh:=lt_of_block HL.out.bh
    have frl:=frz4 (i:=3) HL.out.bl
    have frh:=frz4 (i:=3) HL.out.bh
    have nLH:¬L=H:=by have:=HL.out.ll.2.2.2;omega
    have nHL:¬H=L:=by omega
    have HL:=Lib.hid (HL.out.set3 (fitB (dv false (s.2) (t.2))).1 (fitB (dv true (s.2) (t.2))).1)
    generalize (fitB (dv false (s.2) (t.2))).2=o1 at *
    generalize (fitB (dv true (s.2) (t.2))).2=o2 at *
    cases F
    ·go_wp2
     go_roundw
     case rel=>exact ⟨4,by omega,rfl,by rw [HK.out];rfl,HL⟩
     case measure=>simp [intOf]
    ·cases o1
     ·go_wp2
      go_roundw
      case rel=>exact ⟨4,by omega,rfl,by rw [HK.out];rfl,HL⟩
      case measure=>simp [intOf]
     ·go_wp2
      go_roundw
      case rel=>exact ⟨4,by omega,rfl,by rw [HK.out];rfl,HL⟩
      case measure=>simp [intOf]
   ·have HL:Hid (ML w wr X Y L H (s.1) (s.1) (s.2) (s.2) (t.1) (t.2) (t.1) (t.2) (fitB (dv false (s.1) (t.1))).1 (fitB (dv false (s.1) (t.2))).1 (fitB (dv false (s.2) (t.1))).1 (fitB (dv false (s.2) (t.2))).1 (fitB (dv true (s.1) (t.1))).1 (fitB (dv true (s.1) (t.2))).1 (fitB (dv true (s.2) (t.1))).1 (fitB (dv true (s.2) (t.2))).1):=Lib.hid HL.out
    have HFA:Hid ((if ref2_div_fk s t 4=true then sT (min4 (fitB (dv false (s.1) (t.1))).1 (fitB (dv false (s.1) (t.2))).1 (fitB (dv false (s.2) (t.1))).1 (fitB (dv false (s.2) (t.2))).1) (max4 (fitB (dv true (s.1) (t.1))).1 (fitB (dv true (s.1) (t.2))).1 (fitB (dv true (s.2) (t.1))).1 (fitB (dv true (s.2) (t.2))).1) else ((0,0),6))=sT (min4 (dv false (s.1) (t.1)) (dv false (s.1) (t.2)) (dv false (s.2) (t.1)) (dv false (s.2) (t.2))) (max4 (dv true (s.1) (t.1)) (dv true (s.1) (t.2)) (dv true (s.2) (t.1)) (dv true (s.2) (t.2)))):=Lib.hid HFA.out
    have HFL:Hid (ref2_div_fk s t 4=true->min4 (fitB (dv false (s.1) (t.1))).1 (fitB (dv false (s.1) (t.2))).1 (fitB (dv false (s.2) (t.1))).1 (fitB (dv false (s.2) (t.2))).1<=max4 (fitB (dv true (s.1) (t.1))).1 (fitB (dv true (s.1) (t.2))).1 (fitB (dv true (s.2) (t.1))).1 (fitB (dv true (s.2) (t.2))).1):=Lib.hid HFL.out
    obtain ⟨cl0,cl1,cl2,cl3⟩:=cell_four HL.out.bl
    obtain ⟨ch0,ch1,ch2,ch3⟩:=cell_four HL.out.bh
    generalize ref2_div_fk s t 4=F at *
    clear HC00 HC01 HC10 HC11 HC20 HC21 HC30 HC31
    go_wp2_with fail
    refine (ref2_four _ _ _ _ _ _ _ _ F HFL.out _).mono ?_;rintro e w9 ⟨rfl,hbel⟩
    rw [HFA.out,←HR.out]
    have hB:=HL.out.mb.on hbel
    clear hbel cl0 cl1 cl2 cl3 ch0 ch1 ch2 ch3
    have c0:=cell_two0 hB.b2
    have c1:=cell_two1 hB.b2
    have f0:=free_two (i:=0) hB.b2
    have f1:=free_two (i:=1) hB.b2
    have l2:=lt_of_block hB.b2
    go_wp2_with fail
    exact bodyPost_ret (v:=.tuple #[.agg #[.int .i64 (sDiv s t).1.1,.int .i64 (sDiv s t).1.2],.int .i64 (sDiv s t).2]) (by simp [results,Tryz.results83,go_sem,c0,c1]) rfl ⟨rfl,below_set2 hB.bel (by omega) _ _⟩
theorem ref2_Div_neg (s t:Int×Int) (w:World) (hs:okS s) (ht:okS t) (hz:¬(t.1<=0/\0<=t.2)) (hp:t.2<0) :
  Calls Tryz.prog 83 #[.agg #[.int .i64 s.1,.int .i64 s.2],.agg #[.int .i64 t.1,.int .i64 t.2]] w fun e w'=>e=.returned (.tuple #[.agg #[.int .i64 (sDiv s t).1.1,.int .i64 (sDiv s t).1.2],.int .i64 (sDiv s t).2])/\Below w.heap.size w w':=by
 have hB:=Bx3.start w s t
 have HS:=Lib.hid hs
 have HT:=Lib.hid ht
 have hle0:dv false (s.1) (t.1)<=dv true (s.1) (t.1):=(rnd_le (by have:=ht.2.1;omega))
 have hle1:dv false (s.1) (t.2)<=dv true (s.1) (t.2):=(rnd_le (by have:=ht.2.1;omega))
 have hle2:dv false (s.2) (t.1)<=dv true (s.2) (t.1):=(rnd_le (by have:=ht.2.1;omega))
 have hle3:dv false (s.2) (t.2)<=dv true (s.2) (t.2):=(rnd_le (by have:=ht.2.1;omega))
 have HFA:=Lib.hid (fitB_and _ _ _ _ _ _ _ _ hle0 hle1 hle2 hle3)
 have HFL:=Lib.hid (fun h=>fitB_le hle0 hle1 hle2 hle3 h)
 have HR:=Lib.hid (show sDiv s t=sT (min4 (dv false (s.1) (t.1)) (dv false (s.1) (t.2)) (dv false (s.2) (t.1)) (dv false (s.2) (t.2))) (max4 (dv true (s.1) (t.1)) (dv true (s.1) (t.2)) (dv true (s.2) (t.1)) (dv true (s.2) (t.2))) from (on2_ok hs ht).trans (if_neg hz))
 have HC00:=Lib.hid (fun W=>(ref1_Div (s.1) (t.1) false HS.out.lo HT.out.lo (fun g=>hz (by have:=ht.2.1;omega)) W))
 have HC01:=Lib.hid (fun W=>(ref1_Div (s.1) (t.1) true HS.out.lo HT.out.lo (fun g=>hz (by have:=ht.2.1;omega)) W))
 have HC10:=Lib.hid (fun W=>(ref1_Div (s.1) (t.2) false HS.out.lo HT.out.hi (fun g=>hz (by have:=ht.2.1;omega)) W))
 have HC11:=Lib.hid (fun W=>(ref1_Div (s.1) (t.2) true HS.out.lo HT.out.hi (fun g=>hz (by have:=ht.2.1;omega)) W))
 have HC20:=Lib.hid (fun W=>(ref1_Div (s.2) (t.1) false HS.out.hi HT.out.lo (fun g=>hz (by have:=ht.2.1;omega)) W))
 have HC21:=Lib.hid (fun W=>(ref1_Div (s.2) (t.1) true HS.out.hi HT.out.lo (fun g=>hz (by have:=ht.2.1;omega)) W))
 have HC30:=Lib.hid (fun W=>(ref1_Div (s.2) (t.2) false HS.out.hi HT.out.hi (fun g=>hz (by have:=ht.2.1;omega)) W))
 have HC31:=Lib.hid (fun W=>(ref1_Div (s.2) (t.2) true HS.out.hi HT.out.hi (fun g=>hz (by have:=ht.2.1;omega)) W))
 obtain ⟨t1,t2,t3⟩:=ht
 have hp2:t.1<=0:=by omega
 clear hs hz hle0 hle1 hle2 hle3 t1 t2 t3
 go_enter Tryz.func83,Tryz.ntmps83
 go_wp2_with fail
 refine (ref2_Right_ok HS.out _).mono ?_;rintro e w2 ⟨rfl,hbel⟩
 have hB:=hB.on hbel
 clear hbel
 have a0:=cell_two0 hB.b0
 have a1:=cell_two1 hB.b0
 have b0:=cell_two0 hB.b1
 have b1:=cell_two1 hB.b1
 go_wp2_with fail
 refine (ref2_Right_ok HT.out _).mono ?_;rintro e w3 ⟨rfl,hbel⟩
 have hB:=hB.on hbel
 clear hbel a0 a1 b0 b1
 have a0:=cell_two0 hB.b0
 have a1:=cell_two1 hB.b0
 have b0:=cell_two0 hB.b1
 have b1:=cell_two1 hB.b1
 have l0:=lt_of_block hB.b0
 have l1:=lt_of_block hB.b1
 go_wp2_with fail
 go_region_held3 (fun w'=>w'.cell? ⟨w.heap.size,0,none⟩=some (.int .i64 s.1)/\w'.cell? ⟨w.heap.size,1,none⟩=some (.int .i64 s.2)/\w'.cell? ⟨w.heap.size+1,0,none⟩=some (.int .i64 t.1)/\w'.cell? ⟨w.heap.size+1,1,none⟩=some (.int .i64 t.2))
  (first
   | exact keep4 l0 l1 a0 a1 b0 b1 (by first | exact Below.refl _ _ | exact (Below.refl _ _).drew | exact below_alloc (Below.refl _ _).drew _ | exact below_alloc (below_alloc (Below.refl _ _).drew _) _ | exact (below_alloc (Below.refl _ _) _).drew | exact (below_alloc (below_alloc (Below.refl _ _) _) _).drew)
   | (go_split_ands;exact keep4 l0 l1 a0 a1 b0 b1 (by first | exact Below.refl _ _ | exact (Below.refl _ _).drew | exact below_alloc (Below.refl _ _).drew _ | exact below_alloc (below_alloc (Below.refl _ _).drew _) _ | exact (below_alloc (Below.refl _ _) _).drew | exact (below_alloc (below_alloc (Below.refl _ _) _) _).drew)))
  (fail)
 focus
  have hM:=mb1 hB (s.1) (s.1) (s.2) (s.2) (t.1) (t.2) (t.1) (t.2)
  clear hB a0 a1 b0 b1 l0 l1
  generalize ((w3.alloc (.cells #[.int .i64 s.1,.int .i64 s.1,.int .i64 s.2,.int .i64 s.2] 123)).alloc (.cells #[.int .i64 t.1,.int .i64 t.2,.int .i64 t.1,.int .i64 t.2] 123)).drew=W4 at *
  generalize w3.heap.size+1=Y at *
  generalize w3.heap.size=X at *
 rotate_left
 focus
  have hM:=mb2 hB (s.1) (s.1) (s.2) (s.2) (t.1) (t.2) (t.1) (t.2)
  clear hB a0 a1 b0 b1 l0 l1
  generalize ((w3.alloc (.cells #[.int .i64 t.1,.int .i64 t.2,.int .i64 t.1,.int .i64 t.2] 123)).alloc (.cells #[.int .i64 s.1,.int .i64 s.1,.int .i64 s.2,.int .i64 s.2] 123)).drew=W4 at *
  generalize w3.heap.size+1=X at *
  generalize w3.heap.size=Y at *
 all_goals
  have hL:=ML.start hM
  have HLs:=Lib.hid (show W4.heap.size<W4.heap.size+1+1 by omega)
  go_wp2_with fail
  generalize ((W4.alloc (.cells #[.int .i64 0,.int .i64 0,.int .i64 0,.int .i64 0] 123)).alloc (.cells #[.int .i64 0,.int .i64 0,.int .i64 0,.int .i64 0] 123))=W5 at *
  clear hM HLs
  generalize W4.heap.size+1=H at *
  generalize W4.heap.size=L at *
  go_loopw [10,11] (fun f i wr=>∃k:Nat,k<=4/\i=.int .i64 k/\f=.bool (ref2_div_fk s t k)/\Hid (ML w wr X Y L H (s.1) (s.1) (s.2) (s.2) (t.1) (t.2) (t.1) (t.2) (lk (fitB (dv false (s.1) (t.1))).1 0 k) (lk (fitB (dv false (s.1) (t.2))).1 1 k) (lk (fitB (dv false (s.2) (t.1))).1 2 k) (lk (fitB (dv false (s.2) (t.2))).1 3 k) (lk (fitB (dv true (s.1) (t.1))).1 0 k) (lk (fitB (dv true (s.1) (t.2))).1 1 k) (lk (fitB (dv true (s.2) (t.1))).1 2 k) (lk (fitB (dv true (s.2) (t.2))).1 3 k))) (fun _ i _=>4-(intOf i).toNat)
  case atStart=>exact ⟨0,by omega,rfl,rfl,Lib.hid hL⟩
  case round =>
   clear hL
   obtain ⟨k,hk,rfl,rfl,HL⟩:=hrel
   rcases (by omega:k=0∨k=1∨k=2∨k=3∨k=4) with rfl | rfl | rfl | rfl | rfl
   ·have HK:Hid (ref2_div_fk s t 1=(ref2_div_fk s t 0 && (fitB (dv false (s.1) (t.1))).2 && (fitB (dv true (s.1) (t.1))).2)):=Lib.hid rfl
    generalize ref2_div_fk s t 0=F at *
    obtain ⟨cx0,cx1,cx2,cx3⟩:=cell_four HL.out.mb.bx
    obtain ⟨cy0,cy1,cy2,cy3⟩:=cell_four HL.out.mb.by_
    have lx:=lt_of_block HL.out.mb.bx
    have ly:=lt_of_block HL.out.mb.by_
    go_wp2_with fail
    go_region_held3 (fun w'=>w'.cell? ⟨X,0,none⟩=some (.int .i64 s.1)/\w'.cell? ⟨Y,0,none⟩=some (.int .i64 t.1)/\Below wr.heap.size wr w')
     (first
      | exact keep2c lx ly cx0 cy0 (Below.refl _ _)
      | exact keep2c lx ly cx0 cy0 (Below.refl _ _).drew
      | (go_split_ands;exact keep2c lx ly cx0 cy0 (by assumption))
      | (go_split_ands;exact keep2c lx ly cx0 cy0 (below_step (by assumption) hbel)))
     (first | (go_at_call 100;refine (HC00.out _).mono ?_;rintro e wa ⟨rfl,hbel⟩))
    have hbel0:Below wr.heap.size wr wa:=by go_split_ands;assumption
    have HL:=Lib.hid (HL.out.on hbel0)
    clear hbel0 cx0 cx1 cx2 cx3 cy0 cy1 cy2 cy3 lx ly
    obtain ⟨cx0,cx1,cx2,cx3⟩:=cell_four HL.out.mb.bx
    obtain ⟨cy0,cy1,cy2,cy3⟩:=cell_four HL.out.mb.by_
    have lx:=lt_of_block HL.out.mb.bx
    have ly:=lt_of_block HL.out.mb.by_
    go_wp2_with fail
    go_region_held3 (fun w'=>w'.cell? ⟨X,0,none⟩=some (.int .i64 s.1)/\w'.cell? ⟨Y,0,none⟩=some (.int .i64 t.1)/\Below wa.heap.size wa w')
     (first
      | exact keep2c lx ly cx0 cy0 (Below.refl _ _)
      | exact keep2c lx ly cx0 cy0 (Below.refl _ _).drew
      | (go_split_ands;exact keep2c lx ly cx0 cy0 (by assumption))
      | (go_split_ands;exact keep2c lx ly cx0 cy0 (below_step (by assumption) hbel)))
     (first | (go_at_call 100;refine (HC01.out _).mono ?_;rintro e wb ⟨rfl,hbel⟩))
    have hbel1:Below wa.heap.size wa wb:=by go_split_ands;assumption
    have HL:=Lib.hid (HL.out.on hbel1)
    clear hbel1 cx0 cx1 cx2 cx3 cy0 cy1 cy2 cy3 lx ly
    clear HC00 HC01 HC10 HC11 HC20 HC21 HC30 HC31 HFA HFL HR
    obtain ⟨cl0,cl1,cl2,cl3⟩:=cell_four HL.out.bl
    obtain ⟨ch0,ch1,ch2,ch3⟩:=cell_four HL.out.bh
    have ll:=lt_of_block HL.out.bl
    have lh:=lt_of_block HL.out.bh
    have frl:=frz4 (i:=0) HL.out.bl
    have frh:=frz4 (i:=0) HL.out.bh
    have nLH:¬L=H:=by have:=HL.out.ll.2.2.2;omega
    have nHL:¬H=L:=by omega
    have HL:=Lib.hid (HL.out.set0 (fitB (dv false (s.1) (t.1))).1 (fitB (dv true (s.1) (t.1))).1)
    generalize (fitB (dv false (s.1) (t.1))).2=o1 at *
    generalize (fitB (dv true (s.1) (t.1))).2=o2 at *
    cases F
    ·go_wp2
     go_roundw
     case rel=>exact ⟨1,by omega,rfl,by rw [HK.out];rfl,HL⟩
     case measure=>simp [intOf]
    ·cases o1
     ·go_wp2
      go_roundw
      case rel=>exact ⟨1,by omega,rfl,by rw [HK.out];rfl,HL⟩
      case measure=>simp [intOf]
     ·go_wp2
      go_roundw
      case rel=>exact ⟨1,by omega,rfl,by rw [HK.out];rfl,HL⟩
      case measure=>simp [intOf]
   ·have HK:Hid (ref2_div_fk s t 2=(ref2_div_fk s t 1 && (fitB (dv false (s.1) (t.2))).2 && (fitB (dv true (s.1) (t.2))).2)):=Lib.hid rfl
    generalize ref2_div_fk s t 1=F at *
    obtain ⟨cx0,cx1,cx2,cx3⟩:=cell_four HL.out.mb.bx
    obtain ⟨cy0,cy1,cy2,cy3⟩:=cell_four HL.out.mb.by_
    have lx:=lt_of_block HL.out.mb.bx
    have ly:=lt_of_block HL.out.mb.by_
    go_wp2_with fail
    go_region_held3 (fun w'=>w'.cell? ⟨X,1,none⟩=some (.int .i64 s.1)/\w'.cell? ⟨Y,1,none⟩=some (.int .i64 t.2)/\Below wr.heap.size wr w')
     (first
      | exact keep2c lx ly cx1 cy1 (Below.refl _ _)
      | exact keep2c lx ly cx1 cy1 (Below.refl _ _).drew
      | (go_split_ands;exact keep2c lx ly cx1 cy1 (by assumption))
      | (go_split_ands;exact keep2c lx ly cx1 cy1 (below_step (by assumption) hbel)))
     (first | (go_at_call 100;refine (HC10.out _).mono ?_;rintro e wa ⟨rfl,hbel⟩))
    have hbel0:Below wr.heap.size wr wa:=by go_split_ands;assumption
    have HL:=Lib.hid (HL.out.on hbel0)
    clear hbel0 cx0 cx1 cx2 cx3 cy0 cy1 cy2 cy3 lx ly
    obtain ⟨cx0,cx1,cx2,cx3⟩:=cell_four HL.out.mb.bx
    obtain ⟨cy0,cy1,cy2,cy3⟩:=cell_four HL.out.mb.by_
    have lx:=lt_of_block HL.out.mb.bx
    have ly:=lt_of_block HL.out.mb.by_
    go_wp2_with fail
    go_region_held3 (fun w'=>w'.cell? ⟨X,1,none⟩=some (.int .i64 s.1)/\w'.cell? ⟨Y,1,none⟩=some (.int .i64 t.2)/\Below wa.heap.size wa w')
     (first
      | exact keep2c lx ly cx1 cy1 (Below.refl _ _)
      | exact keep2c lx ly cx1 cy1 (Below.refl _ _).drew
      | (go_split_ands;exact keep2c lx ly cx1 cy1 (by assumption))
      | (go_split_ands;exact keep2c lx ly cx1 cy1 (below_step (by assumption) hbel)))
     (first | (go_at_call 100;refine (HC11.out _).mono ?_;rintro e wb ⟨rfl,hbel⟩))
    have hbel1:Below wa.heap.size wa wb:=by go_split_ands;assumption
    have HL:=Lib.hid (HL.out.on hbel1)
    clear hbel1 cx0 cx1 cx2 cx3 cy0 cy1 cy2 cy3 lx ly
    clear HC00 HC01 HC10 HC11 HC20 HC21 HC30 HC31 HFA HFL HR
    obtain ⟨cl0,cl1,cl2,cl3⟩:=cell_four HL.out.bl
    obtain ⟨ch0,ch1,ch2,ch3⟩:=cell_four HL.out.bh
    have ll:=lt_of_block HL.out.bl
    have lh:=lt_of_block HL.out.bh
    have frl:=frz4 (i:=1) HL.out.bl
    have frh:=frz4 (i:=1) HL.out.bh
    have nLH:¬L=H:=by have:=HL.out.ll.2.2.2;omega
    have nHL:¬H=L:=by omega
    have HL:=Lib.hid (HL.out.set1 (fitB (dv false (s.1) (t.2))).1 (fitB (dv true (s.1) (t.2))).1)
    generalize (fitB (dv false (s.1) (t.2))).2=o1 at *
    generalize (fitB (dv true (s.1) (t.2))).2=o2 at *
    cases F
    ·go_wp2
     go_roundw
     case rel=>exact ⟨2,by omega,rfl,by rw [HK.out];rfl,HL⟩
     case measure=>simp [intOf]
    ·cases o1
     ·go_wp2
      go_roundw
      case rel=>exact ⟨2,by omega,rfl,by rw [HK.out];rfl,HL⟩
      case measure=>simp [intOf]
     ·go_wp2
      go_roundw
      case rel=>exact ⟨2,by omega,rfl,by rw [HK.out];rfl,HL⟩
      case measure=>simp [intOf]
   ·have HK:Hid (ref2_div_fk s t 3=(ref2_div_fk s t 2 && (fitB (dv false (s.2) (t.1))).2 && (fitB (dv true (s.2) (t.1))).2)):=Lib.hid rfl
    generalize ref2_div_fk s t 2=F at *
    obtain ⟨cx0,cx1,cx2,cx3⟩:=cell_four HL.out.mb.bx
    obtain ⟨cy0,cy1,cy2,cy3⟩:=cell_four HL.out.mb.by_
    have lx:=lt_of_block HL.out.mb.bx
    have ly:=lt_of_block HL.out.mb.by_
    go_wp2_with fail
    go_region_held3 (fun w'=>w'.cell? ⟨X,2,none⟩=some (.int .i64 s.2)/\w'.cell? ⟨Y,2,none⟩=some (.int .i64 t.1)/\Below wr.heap.size wr w')
     (first
      | exact keep2c lx ly cx2 cy2 (Below.refl _ _)
      | exact keep2c lx ly cx2 cy2 (Below.refl _ _).drew
      | (go_split_ands;exact keep2c lx ly cx2 cy2 (by assumption))
      | (go_split_ands;exact keep2c lx ly cx2 cy2 (below_step (by assumption) hbel)))
     (first | (go_at_call 100;refine (HC20.out _).mono ?_;rintro e wa ⟨rfl,hbel⟩))
    have hbel0:Below wr.heap.size wr wa:=by go_split_ands;assumption
    have HL:=Lib.hid (HL.out.on hbel0)
    clear hbel0 cx0 cx1 cx2 cx3 cy0 cy1 cy2 cy3 lx ly
    obtain ⟨cx0,cx1,cx2,cx3⟩:=cell_four HL.out.mb.bx
    obtain ⟨cy0,cy1,cy2,cy3⟩:=cell_four HL.out.mb.by_
    have lx:=lt_of_block HL.out.mb.bx
    have ly:=lt_of_block HL.out.mb.by_
    go_wp2_with fail
    go_region_held3 (fun w'=>w'.cell? ⟨X,2,none⟩=some (.int .i64 s.2)/\w'.cell? ⟨Y,2,none⟩=some (.int .i64 t.1)/\Below wa.heap.size wa w')
     (first
      | exact keep2c lx ly cx2 cy2 (Below.refl _ _)
      | exact keep2c lx ly cx2 cy2 (Below.refl _ _).drew
      | (go_split_ands;exact keep2c lx ly cx2 cy2 (by assumption))
      | (go_split_ands;exact keep2c lx ly cx2 cy2 (below_step (by assumption) hbel)))
     (first | (go_at_call 100;refine (HC21.out _).mono ?_;rintro e wb ⟨rfl,hbel⟩))
    have hbel1:Below wa.heap.size wa wb:=by go_split_ands;assumption
    have HL:=Lib.hid (HL.out.on hbel1)
    clear hbel1 cx0 cx1 cx2 cx3 cy0 cy1 cy2 cy3 lx ly
    clear HC00 HC01 HC10 HC11 HC20 HC21 HC30 HC31 HFA HFL HR
    obtain ⟨cl0,cl1,cl2,cl3⟩:=cell_four HL.out.bl
    obtain ⟨ch0,ch1,ch2,ch3⟩:=cell_four HL.out.bh
    have ll:=lt_of_block HL.out.bl
    have lh:=lt_of_block HL.out.bh
    have frl:=frz4 (i:=2) HL.out.bl
    have frh:=frz4 (i:=2) HL.out.bh
    have nLH:¬L=H:=by have:=HL.out.ll.2.2.2;omega
    have nHL:¬H=L:=by omega
    have HL:=Lib.hid (HL.out.set2 (fitB (dv false (s.2) (t.1))).1 (fitB (dv true (s.2) (t.1))).1)
    generalize (fitB (dv false (s.2) (t.1))).2=o1 at *
    generalize (fitB (dv true (s.2) (t.1))).2=o2 at *
    cases F
    ·go_wp2
     go_roundw
     case rel=>exact ⟨3,by omega,rfl,by rw [HK.out];rfl,HL⟩
     case measure=>simp [intOf]
    ·cases o1
     ·go_wp2
      go_roundw
      case rel=>exact ⟨3,by omega,rfl,by rw [HK.out];rfl,HL⟩
      case measure=>simp [intOf]
     ·go_wp2
      go_roundw
      case rel=>exact ⟨3,by omega,rfl,by rw [HK.out];rfl,HL⟩
      case measure=>simp [intOf]
   ·have HK:Hid (ref2_div_fk s t 4=(ref2_div_fk s t 3 && (fitB (dv false (s.2) (t.2))).2 && (fitB (dv true (s.2) (t.2))).2)):=Lib.hid rfl
    generalize ref2_div_fk s t 3=F at *
    obtain ⟨cx0,cx1,cx2,cx3⟩:=cell_four HL.out.mb.bx
    obtain ⟨cy0,cy1,cy2,cy3⟩:=cell_four HL.out.mb.by_
    have lx:=lt_of_block HL.out.mb.bx
    have ly:=lt_of_block HL.out.mb.by_
    go_wp2_with fail
    go_region_held3 (fun w'=>w'.cell? ⟨X,3,none⟩=some (.int .i64 s.2)/\w'.cell? ⟨Y,3,none⟩=some (.int .i64 t.2)/\Below wr.heap.size wr w')
     (first
      | exact keep2c lx ly cx3 cy3 (Below.refl _ _)
      | exact keep2c lx ly cx3 cy3 (Below.refl _ _).drew
      | (go_split_ands;exact keep2c lx ly cx3 cy3 (by assumption))
      | (go_split_ands;exact keep2c lx ly cx3 cy3 (below_step (by assumption) hbel)))
     (first | (go_at_call 100;refine (HC30.out _).mono ?_;rintro e wa ⟨rfl,hbel⟩))
    have hbel0:Below wr.heap.size wr wa:=by go_split_ands;assumption
    have HL:=Lib.hid (HL.out.on hbel0)
    clear hbel0 cx0 cx1 cx2 cx3 cy0 cy1 cy2 cy3 lx ly
    obtain ⟨cx0,cx1,cx2,cx3⟩:=cell_four HL.out.mb.bx
    obtain ⟨cy0,cy1,cy2,cy3⟩:=cell_four HL.out.mb.by_
    have lx:=lt_of_block HL.out.mb.bx
    have ly:=lt_of_block HL.out.mb.by_
    go_wp2_with fail
    go_region_held3 (fun w'=>w'.cell? ⟨X,3,none⟩=some (.int .i64 s.2)/\w'.cell? ⟨Y,3,none⟩=some (.int .i64 t.2)/\Below wa.heap.size wa w')
     (first
      | exact keep2c lx ly cx3 cy3 (Below.refl _ _)
      | exact keep2c lx ly cx3 cy3 (Below.refl _ _).drew
      | (go_split_ands;exact keep2c lx ly cx3 cy3 (by assumption))
      | (go_split_ands;exact keep2c lx ly cx3 cy3 (below_step (by assumption) hbel)))
     (first | (go_at_call 100;refine (HC31.out _).mono ?_;rintro e wb ⟨rfl,hbel⟩))
    have hbel1:Below wa.heap.size wa wb:=by go_split_ands;assumption
    have HL:=Lib.hid (HL.out.on hbel1)
    clear hbel1 cx0 cx1 cx2 cx3 cy0 cy1 cy2 cy3 lx ly
    clear HC00 HC01 HC10 HC11 HC20 HC21 HC30 HC31 HFA HFL HR
    obtain ⟨cl0,cl1,cl2,cl3⟩:=cell_four HL.out.bl
    obtain ⟨ch0,ch1,ch2,ch3⟩:=cell_four HL.out.bh
    have ll:=lt_of_block HL.out.bl
    have lh:=lt_of_block HL.out.bh
    have frl:=frz4 (i:=3) HL.out.bl
    have frh:=frz4 (i:=3) HL.out.bh
    have nLH:¬L=H:=by have:=HL.out.ll.2.2.2;omega
    have nHL:¬H=L:=by omega
    have HL:=Lib.hid (HL.out.set3 (fitB (dv false (s.2) (t.2))).1 (fitB (dv true (s.2) (t.2))).1)
    generalize (fitB (dv false (s.2) (t.2))).2=o1 at *
    generalize (fitB (dv true (s.2) (t.2))).2=o2 at *
    cases F
    ·go_wp2
     go_roundw
     case rel=>exact ⟨4,by omega,rfl,by rw [HK.out];rfl,HL⟩
     case measure=>simp [intOf]
    ·cases o1
     ·go_wp2
      go_roundw
      case rel=>exact ⟨4,by omega,rfl,by rw [HK.out];rfl,HL⟩
      case measure=>simp [intOf]
     ·go_wp2
      go_roundw
      case rel=>exact ⟨4,by omega,rfl,by rw [HK.out];rfl,HL⟩
      case measure=>simp [intOf]
   ·have HL:Hid (ML w wr X Y L H (s.1) (s.1) (s.2) (s.2) (t.1) (t.2) (t.1) (t.2) (fitB (dv false (s.1) (t.1))).1 (fitB (dv false (s.1) (t.2))).1 (fitB (dv false (s.2) (t.1))).1 (fitB (dv false (s.2) (t.2))).1 (fitB (dv true (s.1) (t.1))).1 (fitB (dv true (s.1) (t.2))).1 (fitB (dv true (s.2) (t.1))).1 (fitB (dv true (s.2) (t.2))).1):=Lib.hid HL.out
    have HFA:Hid ((if ref2_div_fk s t 4=true then sT (min4 (fitB (dv false (s.1) (t.1))).1 (fitB (dv false (s.1) (t.2))).1 (fitB (dv false (s.2) (t.1))).1 (fitB (dv false (s.2) (t.2))).1) (max4 (fitB (dv true (s.1) (t.1))).1 (fitB (dv true (s.1) (t.2))).1 (fitB (dv true (s.2) (t.1))).1 (fitB (dv true (s.2) (t.2))).1) else ((0,0),6))=sT (min4 (dv false (s.1) (t.1)) (dv false (s.1) (t.2)) (dv false (s.2) (t.1)) (dv false (s.2) (t.2))) (max4 (dv true (s.1) (t.1)) (dv true (s.1) (t.2)) (dv true (s.2) (t.1)) (dv true (s.2) (t.2)))):=Lib.hid HFA.out
    have HFL:Hid (ref2_div_fk s t 4=true->min4 (fitB (dv false (s.1) (t.1))).1 (fitB (dv false (s.1) (t.2))).1 (fitB (dv false (s.2) (t.1))).1 (fitB (dv false (s.2) (t.2))).1<=max4 (fitB (dv true (s.1) (t.1))).1 (fitB (dv true (s.1) (t.2))).1 (fitB (dv true (s.2) (t.1))).1 (fitB (dv true (s.2) (t.2))).1):=Lib.hid HFL.out
    obtain ⟨cl0,cl1,cl2,cl3⟩:=cell_four HL.out.bl
    obtain ⟨ch0,ch1,ch2,ch3⟩:=cell_four HL.out.bh
    generalize ref2_div_fk s t 4=F at *
    clear HC00 HC01 HC10 HC11 HC20 HC21 HC30 HC31
    go_wp2_with fail
    refine (ref2_four _ _ _ _ _ _ _ _ F HFL.out _).mono ?_;rintro e w9 ⟨rfl,hbel⟩
    rw [HFA.out,←HR.out]
    have hB:=HL.out.mb.on hbel
    clear hbel cl0 cl1 cl2 cl3 ch0 ch1 ch2 ch3
    have c0:=cell_two0 hB.b2
    have c1:=cell_two1 hB.b2
    have f0:=free_two (i:=0) hB.b2
    have f1:=free_two (i:=1) hB.b2
    have l2:=lt_of_block hB.b2
    go_wp2_with fail
    exact bodyPost_ret (v:=.tuple #[.agg #[.int .i64 (sDiv s t).1.1,.int .i64 (sDiv s t).1.2],.int .i64 (sDiv s t).2]) (by simp [results,Tryz.results83,go_sem,c0,c1]) rfl ⟨rfl,below_set2 hB.bel (by omega) _ _⟩
attribute [local go_sem] RunS_value RunS_skip RunS_enter evS_tmp evS_const evS_global evS_func
theorem ref2_Div (s t:Int×Int) (w:World):Calls Tryz.prog 83 #[.agg #[.int .i64 s.1,.int .i64 s.2],.agg #[.int .i64 t.1,.int .i64 t.2]] w fun e w'=>e=.returned (.tuple #[.agg #[.int .i64 (sDiv s t).1.1,.int .i64 (sDiv s t).1.2],.int .i64 (sDiv s t).2])/\Below w.heap.size w w':=by
 by_cases hs:okS s
 ·by_cases ht:okS t
  ·by_cases hz:t.1<=0/\0<=t.2
   ·have HE:=Lib.hid (show sDiv s t=((0,0),7) from (on2_ok hs ht).trans (if_pos hz))
    have Hs:=Lib.hid hs
    have Ht:=Lib.hid ht
    obtain ⟨z1,z2⟩:=hz
    clear hs ht
    have hK:Kv w (((w.alloc (.cells #[.int .i64 s.1,.int .i64 s.2] 31)).alloc (.cells #[.int .i64 t.1,.int .i64 t.2] 31)).alloc (.cells #[.int .i64 0,.int .i64 0] 31)) [(w.heap.size+1+1,.cells #[.int .i64 0,.int .i64 0] 31 (0,0)),(w.heap.size+1,.cells #[.int .i64 t.1,.int .i64 t.2] 31 (0,0)),(w.heap.size,.cells #[.int .i64 s.1,.int .i64 s.2] 31 (0,0))]:=((((Kv.start w).al (.cells #[.int .i64 s.1,.int .i64 s.2] 31 (0,0)) (n:=w.heap.size) (by simp)).al (.cells #[.int .i64 t.1,.int .i64 t.2] 31 (0,0)) (n:=w.heap.size+1) (by simp)).al (.cells #[.int .i64 0,.int .i64 0] 31 (0,0)) (n:=w.heap.size+1+1) (by simp))
    have gR:w.heap.size<=w.heap.size+1+1:=by omega
    have nR_s:w.heap.size+1+1≠w.heap.size:=by omega
    have nR_t:w.heap.size+1+1≠w.heap.size+1:=by omega
    go_enter Tryz.func83,Tryz.ntmps83
    have cs0:=cell_two0 (hK.blk _ (List.Mem.tail _ (List.Mem.tail _ (List.Mem.head _))))
    have cs1:=cell_two1 (hK.blk _ (List.Mem.tail _ (List.Mem.tail _ (List.Mem.head _))))
    have ls:=lt_of_block (hK.blk _ (List.Mem.tail _ (List.Mem.tail _ (List.Mem.head _))))
    go_wp2_with fail
    refine (ref2_Right_ok Hs.out _).mono ?_;rintro e w1 ⟨rfl,hb⟩
    replace hK:=hK.on hb
    clear cs0 cs1 ls hb
    have ct0:=cell_two0 (hK.blk _ (List.Mem.tail _ (List.Mem.head _)))
    have ct1:=cell_two1 (hK.blk _ (List.Mem.tail _ (List.Mem.head _)))
    have lt:=lt_of_block (hK.blk _ (List.Mem.tail _ (List.Mem.head _)))
    go_wp2_with fail
    refine (ref2_Right_ok Ht.out _).mono ?_;rintro e w2 ⟨rfl,hb⟩
    replace hK:=hK.on hb
    clear ct0 ct1 lt hb
    have ct0:=cell_two0 (hK.blk _ (List.Mem.tail _ (List.Mem.head _)))
    have ct1:=cell_two1 (hK.blk _ (List.Mem.tail _ (List.Mem.head _)))
    have lt:=lt_of_block (hK.blk _ (List.Mem.tail _ (List.Mem.head _)))
    have cR0:=cell_two0 (hK.blk _ (List.Mem.head _))
    have cR1:=cell_two1 (hK.blk _ (List.Mem.head _))
    have lR:=lt_of_block (hK.blk _ (List.Mem.head _))
    have fR0:=free_two (i:=0) (hK.blk _ (List.Mem.head _))
    have fR1:=free_two (i:=1) (hK.blk _ (List.Mem.head _))
    replace hK:Kv w ((w2.setCell ⟨w.heap.size+1+1,0,none⟩ (.int .i64 0)).setCell ⟨w.heap.size+1+1,1,none⟩ (.int .i64 0)) [(w.heap.size+1+1,.cells #[.int .i64 0,.int .i64 0] 31 (0,0)),(w.heap.size+1,.cells #[.int .i64 t.1,.int .i64 t.2] 31 (0,0)),(w.heap.size,.cells #[.int .i64 s.1,.int .i64 s.2] 31 (0,0))]:=hK.setb (a:=(0,0)) (cs:=[(w.heap.size+1+1,.cells #[.int .i64 0,.int .i64 0] 31 (0,0)),(w.heap.size+1,.cells #[.int .i64 t.1,.int .i64 t.2] 31 (0,0)),(w.heap.size,.cells #[.int .i64 s.1,.int .i64 s.2] 31 (0,0))]) (List.Mem.head _) gR (0,0) (List.forall_mem_cons.2 ⟨.inl rfl,(List.forall_mem_cons.2 ⟨.inr ⟨(List.Mem.tail _ (List.Mem.head _)),(Ne.symm nR_t)⟩,(List.forall_mem_cons.2 ⟨.inr ⟨(List.Mem.tail _ (List.Mem.tail _ (List.Mem.head _))),(Ne.symm nR_s)⟩,(List.forall_mem_nil _)⟩)⟩)⟩)
    have HKK:=Lib.hid hK
    clear hK
    go_wp2_with fail
    have hK:=HKK.out
    have r0:=cell_two0 (hK.blk _ (List.Mem.head _))
    have r1:=cell_two1 (hK.blk _ (List.Mem.head _))
    exact bodyPost_ret (v:=.tuple #[.agg #[.int .i64 0,.int .i64 0],.int .i64 7]) (by simp [results,Tryz.results83,go_sem,r0,r1]) rfl ⟨by rw [HE.out],hK.bel⟩
   ·by_cases hp:0<t.1
    ·exact ref2_Div_pos s t w hs ht hz hp
    ·exact ref2_Div_neg s t w hs ht hz (by omega)
  ·have HE:=Lib.hid (show sDiv s t=((0,0),20) from on2_bad (fun g=>ht g.2))
   have Hs:=Lib.hid hs
   have Ht:=Lib.hid ht
   clear hs ht
   have hK:Kv w (((w.alloc (.cells #[.int .i64 s.1,.int .i64 s.2] 31)).alloc (.cells #[.int .i64 t.1,.int .i64 t.2] 31)).alloc (.cells #[.int .i64 0,.int .i64 0] 31)) [(w.heap.size+1+1,.cells #[.int .i64 0,.int .i64 0] 31 (0,0)),(w.heap.size+1,.cells #[.int .i64 t.1,.int .i64 t.2] 31 (0,0)),(w.heap.size,.cells #[.int .i64 s.1,.int .i64 s.2] 31 (0,0))]:=((((Kv.start w).al (.cells #[.int .i64 s.1,.int .i64 s.2] 31 (0,0)) (n:=w.heap.size) (by simp)).al (.cells #[.int .i64 t.1,.int .i64 t.2] 31 (0,0)) (n:=w.heap.size+1) (by simp)).al (.cells #[.int .i64 0,.int .i64 0] 31 (0,0)) (n:=w.heap.size+1+1) (by simp))
   have gR:w.heap.size<=w.heap.size+1+1:=by omega
   have nR_s:w.heap.size+1+1≠w.heap.size:=by omega
   have nR_t:w.heap.size+1+1≠w.heap.size+1:=by omega
   go_enter Tryz.func83,Tryz.ntmps83
   have cs0:=cell_two0 (hK.blk _ (List.Mem.tail _ (List.Mem.tail _ (List.Mem.head _))))
   have cs1:=cell_two1 (hK.blk _ (List.Mem.tail _ (List.Mem.tail _ (List.Mem.head _))))
   have ls:=lt_of_block (hK.blk _ (List.Mem.tail _ (List.Mem.tail _ (List.Mem.head _))))
   go_wp2_with fail
   refine (ref2_Right_ok Hs.out _).mono ?_;rintro e w1 ⟨rfl,hb⟩
   replace hK:=hK.on hb
   clear cs0 cs1 ls hb
   have ct0:=cell_two0 (hK.blk _ (List.Mem.tail _ (List.Mem.head _)))
   have ct1:=cell_two1 (hK.blk _ (List.Mem.tail _ (List.Mem.head _)))
   have lt:=lt_of_block (hK.blk _ (List.Mem.tail _ (List.Mem.head _)))
   go_wp2_with fail
   refine (ref2_Right_bad Ht.out _).mono ?_;rintro e w2 ⟨rfl,hb⟩
   replace hK:=hK.on hb
   clear ct0 ct1 lt hb
   have cR0:=cell_two0 (hK.blk _ (List.Mem.head _))
   have cR1:=cell_two1 (hK.blk _ (List.Mem.head _))
   have lR:=lt_of_block (hK.blk _ (List.Mem.head _))
   have fR0:=free_two (i:=0) (hK.blk _ (List.Mem.head _))
   have fR1:=free_two (i:=1) (hK.blk _ (List.Mem.head _))
   replace hK:Kv w ((w2.setCell ⟨w.heap.size+1+1,0,none⟩ (.int .i64 0)).setCell ⟨w.heap.size+1+1,1,none⟩ (.int .i64 0)) [(w.heap.size+1+1,.cells #[.int .i64 0,.int .i64 0] 31 (0,0)),(w.heap.size+1,.cells #[.int .i64 t.1,.int .i64 t.2] 31 (0,0)),(w.heap.size,.cells #[.int .i64 s.1,.int .i64 s.2] 31 (0,0))]:=hK.setb (a:=(0,0)) (cs:=[(w.heap.size+1+1,.cells #[.int .i64 0,.int .i64 0] 31 (0,0)),(w.heap.size+1,.cells #[.int .i64 t.1,.int .i64 t.2] 31 (0,0)),(w.heap.size,.cells #[.int .i64 s.1,.int .i64 s.2] 31 (0,0))]) (List.Mem.head _) gR (0,0) (List.forall_mem_cons.2 ⟨.inl rfl,(List.forall_mem_cons.2 ⟨.inr ⟨(List.Mem.tail _ (List.Mem.head _)),(Ne.symm nR_t)⟩,(List.forall_mem_cons.2 ⟨.inr ⟨(List.Mem.tail _ (List.Mem.tail _ (List.Mem.head _))),(Ne.symm nR_s)⟩,(List.forall_mem_nil _)⟩)⟩)⟩)
   have HKK:=Lib.hid hK
   clear hK
   go_wp2_with fail
   have hK:=HKK.out
   have r0:=cell_two0 (hK.blk _ (List.Mem.head _))
   have r1:=cell_two1 (hK.blk _ (List.Mem.head _))
   exact bodyPost_ret (v:=.tuple #[.agg #[.int .i64 0,.int .i64 0],.int .i64 20]) (by simp [results,Tryz.results83,go_sem,r0,r1]) rfl ⟨by rw [HE.out],hK.bel⟩
 ·have HE:=Lib.hid (show sDiv s t=((0,0),20) from on2_bad (fun g=>hs g.1))
  have Hs:=Lib.hid hs
  clear hs
  have hK:Kv w (((w.alloc (.cells #[.int .i64 s.1,.int .i64 s.2] 31)).alloc (.cells #[.int .i64 t.1,.int .i64 t.2] 31)).alloc (.cells #[.int .i64 0,.int .i64 0] 31)) [(w.heap.size+1+1,.cells #[.int .i64 0,.int .i64 0] 31 (0,0)),(w.heap.size+1,.cells #[.int .i64 t.1,.int .i64 t.2] 31 (0,0)),(w.heap.size,.cells #[.int .i64 s.1,.int .i64 s.2] 31 (0,0))]:=((((Kv.start w).al (.cells #[.int .i64 s.1,.int .i64 s.2] 31 (0,0)) (n:=w.heap.size) (by simp)).al (.cells #[.int .i64 t.1,.int .i64 t.2] 31 (0,0)) (n:=w.heap.size+1) (by simp)).al (.cells #[.int .i64 0,.int .i64 0] 31 (0,0)) (n:=w.heap.size+1+1) (by simp))
  have gR:w.heap.size<=w.heap.size+1+1:=by omega
  have nR_s:w.heap.size+1+1≠w.heap.size:=by omega
  have nR_t:w.heap.size+1+1≠w.heap.size+1:=by omega
  go_enter Tryz.func83,Tryz.ntmps83
  have cs0:=cell_two0 (hK.blk _ (List.Mem.tail _ (List.Mem.tail _ (List.Mem.head _))))
  have cs1:=cell_two1 (hK.blk _ (List.Mem.tail _ (List.Mem.tail _ (List.Mem.head _))))
  have ls:=lt_of_block (hK.blk _ (List.Mem.tail _ (List.Mem.tail _ (List.Mem.head _))))
  go_wp2_with fail
  refine (ref2_Right_bad Hs.out _).mono ?_;rintro e w1 ⟨rfl,hb⟩
  replace hK:=hK.on hb
  clear cs0 cs1 ls hb
  have cR0:=cell_two0 (hK.blk _ (List.Mem.head _))
  have cR1:=cell_two1 (hK.blk _ (List.Mem.head _))
  have lR:=lt_of_block (hK.blk _ (List.Mem.head _))
  have fR0:=free_two (i:=0) (hK.blk _ (List.Mem.head _))
  have fR1:=free_two (i:=1) (hK.blk _ (List.Mem.head _))
  replace hK:Kv w ((w1.setCell ⟨w.heap.size+1+1,0,none⟩ (.int .i64 0)).setCell ⟨w.heap.size+1+1,1,none⟩ (.int .i64 0)) [(w.heap.size+1+1,.cells #[.int .i64 0,.int .i64 0] 31 (0,0)),(w.heap.size+1,.cells #[.int .i64 t.1,.int .i64 t.2] 31 (0,0)),(w.heap.size,.cells #[.int .i64 s.1,.int .i64 s.2] 31 (0,0))]:=hK.setb (a:=(0,0)) (cs:=[(w.heap.size+1+1,.cells #[.int .i64 0,.int .i64 0] 31 (0,0)),(w.heap.size+1,.cells #[.int .i64 t.1,.int .i64 t.2] 31 (0,0)),(w.heap.size,.cells #[.int .i64 s.1,.int .i64 s.2] 31 (0,0))]) (List.Mem.head _) gR (0,0) (List.forall_mem_cons.2 ⟨.inl rfl,(List.forall_mem_cons.2 ⟨.inr ⟨(List.Mem.tail _ (List.Mem.head _)),(Ne.symm nR_t)⟩,(List.forall_mem_cons.2 ⟨.inr ⟨(List.Mem.tail _ (List.Mem.tail _ (List.Mem.head _))),(Ne.symm nR_s)⟩,(List.forall_mem_nil _)⟩)⟩)⟩)
  have HKK:=Lib.hid hK
  clear hK
  go_wp2_with fail
  have hK:=HKK.out
  have r0:=cell_two0 (hK.blk _ (List.Mem.head _))
  have r1:=cell_two1 (hK.blk _ (List.Mem.head _))
  exact bodyPost_ret (v:=.tuple #[.agg #[.int .i64 0,.int .i64 0],.int .i64 20]) (by simp [results,Tryz.results83,go_sem,r0,r1]) rfl ⟨by rw [HE.out],hK.bel⟩
structure Sqi (W:World) (K1 K2:Nat) (c:Int×Int) (lo hi:Int) (L:Nat->Bool) (s:Nat->Value) (w:World):Prop where
 bel:Below W.heap.size W w
 kd:w.heap[K1]?=some (.cells #[.int .i64 c.1,.int .i64 c.2] 31 (0,0))
 kz:L 7=false->w.heap[K2]?=some (.cells #[.int .i64 0,.int .i64 0] 31 (0,0))
 kr:L 7=true->w.heap[K2]?=some (.cells #[.int .i64 lo,.int .i64 hi] 31 (0,0))
 e0:L 0=true->s 12=.pointer (some ⟨K1,0,none⟩)
 e1:L 1=true->s 13=.int .i64 c.1
 e2:L 2=true->s 14=.int .i64 lo
 e3:L 3=true->s 15=.pointer (some ⟨K1,1,none⟩)
 e4:L 4=true->s 16=.int .i64 c.2
 e5:L 5=true->s 17=.int .i64 hi
 e6:L 6=true->s 18=.agg #[.int .i64 lo,.int .i64 hi]
 e8:L 8=true->s 3=.int .i64 0
theorem ref2_Sqrt (c:Int×Int) (w:World):Calls Tryz.prog 55 #[.agg #[.int .i64 c.1,.int .i64 c.2]] w fun e w'=>e=.returned (.tuple #[.agg #[.int .i64 (sSqrt c).1.1,.int .i64 (sSqrt c).1.2],.int .i64 (sSqrt c).2])/\Below w.heap.size w w':=by
 by_cases hs:okS c
 ·by_cases h0:0<=c.1
  ·have h2:0<=c.2:=Int.le_trans h0 hs.2.1
   obtain ⟨lo,hlo⟩:∃lo:Int,((rtOf false (c.1.toNat*4294967296):Nat):Int)=lo:=⟨_,rfl⟩
   obtain ⟨hi,hhi⟩:∃hi:Int,((rtOf true (c.2.toNat*4294967296):Nat):Int)=hi:=⟨_,rfl⟩
   have HE:=Lib.hid (show sSqrt c=((lo,hi),0) from (Mnc.sSqrt_ok hs h0).trans (by rw [hlo,hhi]))
   have HD:Hid (∀W,Calls Tryz.prog 90 #[.int .i64 c.1,.bool false] W fun e w'=>e=.returned (.int .i64 lo)/\Below W.heap.size W w'):=Lib.hid fun W=>by
    have h:=ref1_Sqrt c.1.toNat (by have:=hs.2.1;have:=hs.2.2;omega) false W
    rw [Int.toNat_of_nonneg h0,hlo] at h
    exact h.mono fun e w' g=>⟨g.1,g.2 ▸ Below.refl _ _⟩
   have HU:Hid (∀W,Calls Tryz.prog 90 #[.int .i64 c.2,.bool true] W fun e w'=>e=.returned (.int .i64 hi)/\Below W.heap.size W w'):=Lib.hid fun W=>by
    have h:=ref1_Sqrt c.2.toNat (by have:=hs.2.2;omega) true W
    rw [Int.toNat_of_nonneg h2,hhi] at h
    exact h.mono fun e w' g=>⟨g.1,g.2 ▸ Below.refl _ _⟩
   have Hs:=Lib.hid hs
   clear hs h2 hlo hhi
   have hK:Kv w ((w.alloc (.cells #[.int .i64 c.1,.int .i64 c.2] 31)).alloc (.cells #[.int .i64 0,.int .i64 0] 31)) [(w.heap.size+1,.cells #[.int .i64 0,.int .i64 0] 31 (0,0)),(w.heap.size,.cells #[.int .i64 c.1,.int .i64 c.2] 31 (0,0))]:=(((Kv.start w).al (.cells #[.int .i64 c.1,.int .i64 c.2] 31 (0,0)) (n:=w.heap.size) (by simp)).al (.cells #[.int .i64 0,.int .i64 0] 31 (0,0)) (n:=w.heap.size+1) (by simp))
   have gR:w.heap.size<=w.heap.size+1:=by omega
   have nR_c:w.heap.size+1≠w.heap.size:=by omega
   go_enter Tryz.func55,Tryz.ntmps55
   have cc0:=cell_two0 (hK.blk _ (List.Mem.tail _ (List.Mem.head _)))
   have cc1:=cell_two1 (hK.blk _ (List.Mem.tail _ (List.Mem.head _)))
   have lc:=lt_of_block (hK.blk _ (List.Mem.tail _ (List.Mem.head _)))
   go_wp2_with fail
   refine (ref2_Right_ok Hs.out _).mono ?_;rintro e w1 ⟨rfl,hb⟩
   replace hK:=hK.on hb
   clear cc0 cc1 lc hb
   have cc0:=cell_two0 (hK.blk _ (List.Mem.tail _ (List.Mem.head _)))
   have cc1:=cell_two1 (hK.blk _ (List.Mem.tail _ (List.Mem.head _)))
   have lc:=lt_of_block (hK.blk _ (List.Mem.tail _ (List.Mem.head _)))
   go_upto_region 5 with (fail)
   clear cc0 cc1 lc
   have HK:=Lib.hid hK
   clear hK
   refine wp_cut_merge [none,none,none,some 3,none,none,none,none,none,none,none,none,some 12,some 13,some 14,some 15,some 16,some 17,some 18] (fun s wx=>s 3=.int .i64 0/\Hid (Below w.heap.size w wx/\wx.heap[w.heap.size+1]?=some (.cells #[.int .i64 lo,.int .i64 hi] 31 (0,0)))) ?_ ?_
   ·intro Q2 hQ2
    refine wp_region_inv (Sqi w w.heap.size (w.heap.size+1) c lo hi) (by kernel_rfl) (by kernel_rfl) ?_ ?_ ?_
    ·exact ⟨HK.out.bel.drew,(HK.out.blk _ (List.mem_cons_of_mem _ (List.mem_cons_self ..))),fun _=>HK.out.blk _ (List.mem_cons_self ..),fun h=>absurd h Bool.false_ne_true,fun h=>absurd h Bool.false_ne_true,fun h=>absurd h Bool.false_ne_true,fun h=>absurd h Bool.false_ne_true,fun h=>absurd h Bool.false_ne_true,fun h=>absurd h Bool.false_ne_true,fun h=>absurd h Bool.false_ne_true,fun h=>absurd h Bool.false_ne_true,fun h=>absurd h Bool.false_ne_true⟩
    ·refine AllS.consN 1 (some 12) rfl rfl ?_ (AllS.consN 2 (some 13) rfl rfl ?_ (AllS.consN 3 (some 14) rfl rfl ?_ (AllS.consN 4 (some 15) rfl rfl ?_ (AllS.consN 5 (some 16) rfl rfl ?_ (AllS.consN 6 (some 17) rfl rfl ?_ (AllS.consN 7 (some 18) rfl rfl ?_ (AllS.consN 8 none rfl rfl ?_ (AllS.consN 9 (some 3) rfl rfl ?_ AllS.nil))))))))
     ·intro L s w2 h hk hd hn
      have s1:s 1=_:=hk 1 (by kernel_rfl)
      refine stepS rfl fun K hK=>?_
      go_simp
      exact hK _ _ {h with e0:=fun _=>rfl}
     ·intro L s w2 h hk hd hn
      have s12:=h.e0 hd.1
      have c0:=cell_two0 h.kd
      have c1:=cell_two1 h.kd
      have lb:=lt_of_block h.kd
      refine stepS rfl fun K hK=>?_
      go_simp
      exact hK _ _ {h with e1:=fun _=>rfl}
     ·intro L s w2 h hk hd hn
      have s13:=h.e1 hd.1
      refine stepS rfl fun K hK=>?_
      go_simp
      refine (HD.out _).mono ?_
      rintro e w3 ⟨rfl,hb⟩
      exact ⟨_,rfl,hK _ _ {h with bel:=below_step h.bel hb,kd:=(hb.block _ (lt_of_block (h.kd))).trans (h.kd),kz:=fun a=>(hb.block _ (lt_of_block (h.kz a))).trans (h.kz a),kr:=fun a=>(hb.block _ (lt_of_block (h.kr a))).trans (h.kr a),e2:=fun _=>rfl}⟩
     ·intro L s w2 h hk hd hn
      have s1:s 1=_:=hk 1 (by kernel_rfl)
      refine stepS rfl fun K hK=>?_
      go_simp
      exact hK _ _ {h with e3:=fun _=>rfl}
     ·intro L s w2 h hk hd hn
      have s15:=h.e3 hd.1
      have c0:=cell_two0 h.kd
      have c1:=cell_two1 h.kd
      have lb:=lt_of_block h.kd
      refine stepS rfl fun K hK=>?_
      go_simp
      exact hK _ _ {h with e4:=fun _=>rfl}
     ·intro L s w2 h hk hd hn
      have s16:=h.e4 hd.1
      refine stepS rfl fun K hK=>?_
      go_simp
      refine (HU.out _).mono ?_
      rintro e w3 ⟨rfl,hb⟩
      exact ⟨_,rfl,hK _ _ {h with bel:=below_step h.bel hb,kd:=(hb.block _ (lt_of_block (h.kd))).trans (h.kd),kz:=fun a=>(hb.block _ (lt_of_block (h.kz a))).trans (h.kz a),kr:=fun a=>(hb.block _ (lt_of_block (h.kr a))).trans (h.kr a),e5:=fun _=>rfl}⟩
     ·intro L s w2 h hk hd hn
      have s14:=h.e2 hd.1
      have s17:=h.e5 hd.2.1
      refine stepS rfl fun K hK=>?_
      go_simp
      exact hK _ _ {h with e6:=fun _=>rfl}
     ·intro L s w2 h hk hd hn
      have s18:=h.e6 hd.1
      have s2:s 2=_:=hk 2 (by kernel_rfl)
      have hv:Kv w w2 [(w.heap.size+1,.cells #[.int .i64 0,.int .i64 0] 31 (0,0)),(w.heap.size,.cells #[.int .i64 c.1,.int .i64 c.2] 31 (0,0))]:=⟨h.bel,List.forall_mem_cons.2 ⟨h.kz hn,List.forall_mem_cons.2 ⟨h.kd,List.forall_mem_nil _⟩⟩⟩
      have b:=h.kz hn
      have c0:=cell_two0 b
      have c1:=cell_two1 b
      have f0:=free_two (i:=0) b
      have f1:=free_two (i:=1) b
      have lb:=lt_of_block b
      have hv2:=hv.st2 (Nat.le_succ _) (List.forall_mem_cons.2 ⟨by simp only;omega,List.forall_mem_nil _⟩) (.int .i64 lo) (.int .i64 hi)
      have hb1:=Lib.hid hv2.bel
      have hb2:=Lib.hid (hv2.blk _ (List.mem_cons_of_mem _ (List.mem_cons_self ..)))
      have hb3:=Lib.hid (hv2.blk _ (List.mem_cons_self ..))
      clear hv hv2 b
      refine stepS rfl fun K hK=>?_
      go_simp
      exact hK _ _ {h with bel:=hb1.out,kd:=hb2.out,kz:=fun a=>absurd a.symm Bool.false_ne_true,kr:=fun _=>hb3.out}
     ·intro L s w2 h hk hd hn
      refine stepS rfl fun K hK=>?_
      go_simp
      exact hK _ _ {h with e8:=fun _=>rfl}
    ·intro L s w2 h hk hl
     refine (congrArg (fun a=>Q2 .normal a w2) (?_:_=_)).mpr (hQ2 s w2 (⟨h.e8 (hl 8 (by decide)),Lib.hid ⟨h.bel,h.kr (hl 7 (by decide))⟩⟩))
     refine congrArg (fun l=>(⟨List.toArray l,[]⟩:Act)) ?_
     show [s 0,s 1,s 2,s 3,s 4,s 5,s 6,s 7,s 8,s 9,s 10,s 11,s 12,s 13,s 14,s 15,s 16,s 17,s 18]=_
     exact lc (hk 0 (by kernel_rfl)) (lc (hk 1 (by kernel_rfl)) (lc (hk 2 (by kernel_rfl)) (lc rfl (lc (hk 4 (by kernel_rfl)) (lc (hk 5 (by kernel_rfl)) (lc (hk 6 (by kernel_rfl)) (lc (hk 7 (by kernel_rfl)) (lc (hk 8 (by kernel_rfl)) (lc (hk 9 (by kernel_rfl)) (lc (hk 10 (by kernel_rfl)) (lc (hk 11 (by kernel_rfl)) (lc rfl (lc rfl (lc rfl (lc rfl (lc rfl (lc rfl (lc rfl rfl))))))))))))))))))
   ·rintro s wc ⟨e1,HE2⟩
    simp only [mergeL,e1]
    clear e1 HK
    go_wp2_with fail
    have r0:=cell_two0 HE2.out.2
    have r1:=cell_two1 HE2.out.2
    exact bodyPost_ret (v:=.tuple #[.agg #[.int .i64 lo,.int .i64 hi],.int .i64 0]) (by simp [results,Tryz.results55,go_sem,r0,r1]) rfl ⟨by rw [HE.out],HE2.out.1⟩
  ·have HE:=Lib.hid (Mnc.sSqrt_neg hs h0)
   have Hs:=Lib.hid hs
   have z1:c.1<0:=by omega
   clear hs h0
   have hK:Kv w ((w.alloc (.cells #[.int .i64 c.1,.int .i64 c.2] 31)).alloc (.cells #[.int .i64 0,.int .i64 0] 31)) [(w.heap.size+1,.cells #[.int .i64 0,.int .i64 0] 31 (0,0)),(w.heap.size,.cells #[.int .i64 c.1,.int .i64 c.2] 31 (0,0))]:=(((Kv.start w).al (.cells #[.int .i64 c.1,.int .i64 c.2] 31 (0,0)) (n:=w.heap.size) (by simp)).al (.cells #[.int .i64 0,.int .i64 0] 31 (0,0)) (n:=w.heap.size+1) (by simp))
   have gR:w.heap.size<=w.heap.size+1:=by omega
   have nR_c:w.heap.size+1≠w.heap.size:=by omega
   go_enter Tryz.func55,Tryz.ntmps55
   have cc0:=cell_two0 (hK.blk _ (List.Mem.tail _ (List.Mem.head _)))
   have cc1:=cell_two1 (hK.blk _ (List.Mem.tail _ (List.Mem.head _)))
   have lc:=lt_of_block (hK.blk _ (List.Mem.tail _ (List.Mem.head _)))
   go_wp2_with fail
   refine (ref2_Right_ok Hs.out _).mono ?_;rintro e w1 ⟨rfl,hb⟩
   replace hK:=hK.on hb
   clear cc0 cc1 lc hb
   have cc0:=cell_two0 (hK.blk _ (List.Mem.tail _ (List.Mem.head _)))
   have cc1:=cell_two1 (hK.blk _ (List.Mem.tail _ (List.Mem.head _)))
   have lc:=lt_of_block (hK.blk _ (List.Mem.tail _ (List.Mem.head _)))
   have cR0:=cell_two0 (hK.blk _ (List.Mem.head _))
   have cR1:=cell_two1 (hK.blk _ (List.Mem.head _))
   have lR:=lt_of_block (hK.blk _ (List.Mem.head _))
   have fR0:=free_two (i:=0) (hK.blk _ (List.Mem.head _))
   have fR1:=free_two (i:=1) (hK.blk _ (List.Mem.head _))
   replace hK:Kv w ((w1.setCell ⟨w.heap.size+1,0,none⟩ (.int .i64 0)).setCell ⟨w.heap.size+1,1,none⟩ (.int .i64 0)) [(w.heap.size+1,.cells #[.int .i64 0,.int .i64 0] 31 (0,0)),(w.heap.size,.cells #[.int .i64 c.1,.int .i64 c.2] 31 (0,0))]:=hK.setb (a:=(0,0)) (cs:=[(w.heap.size+1,.cells #[.int .i64 0,.int .i64 0] 31 (0,0)),(w.heap.size,.cells #[.int .i64 c.1,.int .i64 c.2] 31 (0,0))]) (List.Mem.head _) gR (0,0) (List.forall_mem_cons.2 ⟨.inl rfl,(List.forall_mem_cons.2 ⟨.inr ⟨(List.Mem.tail _ (List.Mem.head _)),(Ne.symm nR_c)⟩,(List.forall_mem_nil _)⟩)⟩)
   have HKK:=Lib.hid hK
   clear hK
   go_wp2_with fail
   have hK:=HKK.out
   have r0:=cell_two0 (hK.blk _ (List.Mem.head _))
   have r1:=cell_two1 (hK.blk _ (List.Mem.head _))
   exact bodyPost_ret (v:=.tuple #[.agg #[.int .i64 0,.int .i64 0],.int .i64 2]) (by simp [results,Tryz.results55,go_sem,r0,r1]) rfl ⟨by rw [HE.out],hK.bel⟩
 ·have HE:=Lib.hid (show sSqrt c=((0,0),20) from on1_bad hs)
  have Hs:=Lib.hid hs
  clear hs
  have hK:Kv w ((w.alloc (.cells #[.int .i64 c.1,.int .i64 c.2] 31)).alloc (.cells #[.int .i64 0,.int .i64 0] 31)) [(w.heap.size+1,.cells #[.int .i64 0,.int .i64 0] 31 (0,0)),(w.heap.size,.cells #[.int .i64 c.1,.int .i64 c.2] 31 (0,0))]:=(((Kv.start w).al (.cells #[.int .i64 c.1,.int .i64 c.2] 31 (0,0)) (n:=w.heap.size) (by simp)).al (.cells #[.int .i64 0,.int .i64 0] 31 (0,0)) (n:=w.heap.size+1) (by simp))
  have gR:w.heap.size<=w.heap.size+1:=by omega
  have nR_c:w.heap.size+1≠w.heap.size:=by omega
  go_enter Tryz.func55,Tryz.ntmps55
  have cc0:=cell_two0 (hK.blk _ (List.Mem.tail _ (List.Mem.head _)))
  have cc1:=cell_two1 (hK.blk _ (List.Mem.tail _ (List.Mem.head _)))
  have lc:=lt_of_block (hK.blk _ (List.Mem.tail _ (List.Mem.head _)))
  go_wp2_with fail
  refine (ref2_Right_bad Hs.out _).mono ?_;rintro e w1 ⟨rfl,hb⟩
  replace hK:=hK.on hb
  clear cc0 cc1 lc hb
  have cR0:=cell_two0 (hK.blk _ (List.Mem.head _))
  have cR1:=cell_two1 (hK.blk _ (List.Mem.head _))
  have lR:=lt_of_block (hK.blk _ (List.Mem.head _))
  have fR0:=free_two (i:=0) (hK.blk _ (List.Mem.head _))
  have fR1:=free_two (i:=1) (hK.blk _ (List.Mem.head _))
  replace hK:Kv w ((w1.setCell ⟨w.heap.size+1,0,none⟩ (.int .i64 0)).setCell ⟨w.heap.size+1,1,none⟩ (.int .i64 0)) [(w.heap.size+1,.cells #[.int .i64 0,.int .i64 0] 31 (0,0)),(w.heap.size,.cells #[.int .i64 c.1,.int .i64 c.2] 31 (0,0))]:=hK.setb (a:=(0,0)) (cs:=[(w.heap.size+1,.cells #[.int .i64 0,.int .i64 0] 31 (0,0)),(w.heap.size,.cells #[.int .i64 c.1,.int .i64 c.2] 31 (0,0))]) (List.Mem.head _) gR (0,0) (List.forall_mem_cons.2 ⟨.inl rfl,(List.forall_mem_cons.2 ⟨.inr ⟨(List.Mem.tail _ (List.Mem.head _)),(Ne.symm nR_c)⟩,(List.forall_mem_nil _)⟩)⟩)
  have HKK:=Lib.hid hK
  clear hK
  go_wp2_with fail
  have hK:=HKK.out
  have r0:=cell_two0 (hK.blk _ (List.Mem.head _))
  have r1:=cell_two1 (hK.blk _ (List.Mem.head _))
  exact bodyPost_ret (v:=.tuple #[.agg #[.int .i64 0,.int .i64 0],.int .i64 20]) (by simp [results,Tryz.results55,go_sem,r0,r1]) rfl ⟨by rw [HE.out],hK.bel⟩
end Go.Proofs.YthhkcfpljgdnhaaGreat
