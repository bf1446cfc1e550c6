/- Package taylor: point, place, reach, must. -/
import Derived.Test.YthhkcfpljgdnhaaGreatSpanX
import Derived.Test.YthhkcfpljgdnhaaGreatTayPl
import Derived.Test.YthhkcfpljgdnhaaGreatPowX
import Derived.Test.YthhkcfpljgdnhaaGreatRegX
namespace Go.Proofs.YthhkcfpljgdnhaaGreat
open Go.RowKit Mnc

theorem tay_point (n:Int) (w:World) :
  Calls Tryz.prog 54 #[.int .i64 n] w fun e w'=>e=.returned (.agg #[.int .i64 n,.int .i64 n])/\Below w.heap.size w w':=by
 go_enter Tryz.func54,Tryz.ntmps54
 go_wp2
 exact bodyPost_ret (v:=.agg #[.int .i64 n,.int .i64 n]) (by simp [results,Tryz.results54,go_sem]) rfl ⟨rfl,below_alloc (Below.refl _ _) _⟩
theorem tay_must_ok (x:Int×Int) (w:World) :
  Calls Tryz.prog 41 #[.agg #[.int .i64 x.1,.int .i64 x.2],.int .i64 0] w fun e w'=>e=.returned (.agg #[.int .i64 x.1,.int .i64 x.2])/\Below w.heap.size w w':=by
 go_enter Tryz.func41,Tryz.ntmps41
 go_wp2
 exact bodyPost_ret (v:=.agg #[.int .i64 x.1,.int .i64 x.2]) (by simp [results,Tryz.results41,go_sem]) rfl ⟨rfl,below_alloc (below_alloc (Below.refl _ _) _) _⟩
/-- The panic that carries an error. -/
def brk (n:Int):List PanicEntry:=[{v:=.iface 70 (.agg #[.int .i64 n]),recovered:=false}]
theorem tay_must_bad (x:Int×Int) (n:Int) (hn:¬n=0) (w:World) :
  Calls Tryz.prog 41 #[.agg #[.int .i64 x.1,.int .i64 x.2],.int .i64 n] w fun e w'=>e=.panicked (brk n)/\Below w.heap.size w w':=by
 have hz:(n==0)=false:=by simp [hn]
 go_enter Tryz.func41,Tryz.ntmps41
 go_wp2
 exact ⟨rfl,rfl,below_alloc (below_alloc (Below.refl _ _) _) _⟩
/-- A result is handed on, or its error ends the computation. -/
theorem tay_must (x:Int×Int) (n:Int) (w:World) :
  Calls Tryz.prog 41 #[.agg #[.int .i64 x.1,.int .i64 x.2],.int .i64 n] w fun e w'=>((n=0/\e=.returned (.agg #[.int .i64 x.1,.int .i64 x.2]))∨(¬n=0/\e=.panicked (brk n)))/\Below w.heap.size w w':=by
 by_cases h:n=0
 ·subst h
  exact (tay_must_ok x w).mono fun e w' g=>⟨.inl ⟨rfl,g.1⟩,g.2⟩
 ·exact (tay_must_bad x n h w).mono fun e w' g=>⟨.inr ⟨h,g.1⟩,g.2⟩
theorem tay_place (i j:Nat) (hi:i+j<=10) (w:World) :
  Calls Tryz.prog 60 #[.int .i64 i,.int .i64 j] w fun e w'=>e=.returned (.int .i64 (tPlace i j:Nat))/\Below w.heap.size w w':=by
 have HR:Hid (((tPlace i j:Nat):Int)=(((i:Int)+j)*((i:Int)+j+1)).tdiv 2+i):=lh (by
  unfold tPlace
  rw [Int.tdiv_eq_ediv_of_nonneg (Int.mul_nonneg (by omega) (by omega))]
  push_cast
  rfl)
 have hp:0<=((i:Int)+j)*((i:Int)+j+1)/\((i:Int)+j)*((i:Int)+j+1)<=110 :=
  ⟨Int.mul_nonneg (by omega) (by omega),Int.le_trans (Int.mul_le_mul (show (i:Int)+j<=10 by omega) (show (i:Int)+j+1<=11 by omega) (by omega) (by omega)) (by decide)⟩
 obtain ⟨p,hpp⟩:∃p,((i:Int)+j)*((i:Int)+j+1)=p:=⟨_,rfl⟩
 rw [hpp] at HR hp
 obtain ⟨p1,p2⟩:=hp
 obtain ⟨q,hq⟩:∃q,p.tdiv 2=q:=⟨_,rfl⟩
 have q1:0<=q/\q<=55:=by
  rw [←hq,Int.tdiv_eq_ediv_of_nonneg p1]
  omega
 obtain ⟨q1,q2⟩:=q1
 go_enter Tryz.func60,Tryz.ntmps60
 have HQ:=lh hq
 go_wp2
 exact bodyPost_ret (v:=.int .i64 (q+i)) (by simp [results,Tryz.results60,go_sem]) rfl ⟨by rw [HR.out,HQ.out],Below.refl _ _⟩
theorem tay_even:∀i j:Fin 11,(bits BinOp.and IntKind.i64 (bits BinOp.or IntKind.i64 (i.1:Int) (j.1:Int)) 1==0)=decide (i.1 % 2=0/\j.1 % 2=0):=by decide +kernel
theorem tay_reach (i j:Nat) (hi:i<=10) (hj:j<=10) (w:World) :
  Calls Tryz.prog 64 #[.int .i64 i,.int .i64 j] w fun e w'=>e=.returned (.agg #[.int .i64 (tReach i j).1,.int .i64 (tReach i j).2])/\Below w.heap.size w w':=by
 by_cases h0:i+j=0
 ·obtain rfl:i=0:=by omega
  obtain rfl:j=0:=by omega
  have hB:(w.alloc (.cells #[.int .i64 0,.int .i64 0] 31)).heap[w.heap.size]?=some (.cells #[.int .i64 0,.int .i64 0] 31 (0,0)):=heap_at _ rfl
  have hW:=below_alloc (Below.refl w.heap.size w) (.cells #[.int .i64 0,.int .i64 0] 31)
  have HB:=lh hB
  have HW:=lh hW
  clear hB hW hi hj
  go_enter Tryz.func64,Tryz.ntmps64
  go_wp2_with fail
  refine (tay_point 4294967296 _).mono ?_;rintro e w1 ⟨rfl,hb⟩
  have b:=(hb.block _ (lt_of_block HB.out)).trans HB.out
  have c0:=cell_two0 b
  have c1:=cell_two1 b
  have f0:=free_two (i:=0) b
  have f1:=free_two (i:=1) b
  have l:=lt_of_block b
  have HE:=lh (below_set2 (below_step HW.out hb) (Nat.le_refl _) (.int .i64 4294967296) (.int .i64 4294967296))
  clear b hb
  go_wp2_with fail
  exact bodyPost_ret (v:=.agg #[.int .i64 4294967296,.int .i64 4294967296]) (by simp [results,Tryz.results64,go_sem,c0,c1]) rfl ⟨rfl,HE.out⟩
 ·have hz:((i:Int)+j==0)=false:=by simp;omega
  have hk:=tay_even ⟨i,by omega⟩ ⟨j,by omega⟩
  dsimp only at hk
  by_cases he:i % 2=0/\j % 2=0
  ·rw [decide_eq_true he] at hk
   have HR:=lh (show tReach i j=(0,4294967296) by unfold tReach;rw [if_neg h0,if_pos he])
   clear he
   go_enter Tryz.func64,Tryz.ntmps64
   go_wp2_with fail
   exact bodyPost_ret (v:=.agg #[.int .i64 0,.int .i64 4294967296]) (by simp [results,Tryz.results64,go_sem]) rfl ⟨by rw [HR.out],below_alloc (Below.refl _ _) _⟩
  ·rw [decide_eq_false he] at hk
   have HR:=lh (show tReach i j=(-4294967296,4294967296) by unfold tReach;rw [if_neg h0,if_neg he])
   clear he
   go_enter Tryz.func64,Tryz.ntmps64
   go_wp2_with fail
   exact bodyPost_ret (v:=.agg #[.int .i64 (-4294967296),.int .i64 4294967296]) (by simp [results,Tryz.results64,go_sem]) rfl ⟨by rw [HR.out],below_alloc (Below.refl _ _) _⟩
end Go.Proofs.YthhkcfpljgdnhaaGreat
namespace Go.Proofs.YthhkcfpljgdnhaaGreat
open Go.RowKit Mnc
attribute [local go_sem] RunSP_value RunSP_skip RunSP_enter evS_tmp evS_const evS_global evS_func
theorem lc {α:Type} {a b:α} {l m:List α} (h:a=b) (t:l=m):a::l=b::m:=by rw [h,t]
end Go.Proofs.YthhkcfpljgdnhaaGreat
