/- Contracts: fix.signed at each closure. Printed by wip/genE.py. -/
import Derived.Test.YthhkcfpljgdnhaaGreatFixX
import Derived.Test.YthhkcfpljgdnhaaGreatPl
import Derived.BigGuardPart
import Derived.Deep.RegionHeld3
import Derived.OneCell
set_option maxRecDepth 100000
namespace Go.Proofs.YthhkcfpljgdnhaaGreat
open Go.RowKit Mnc


set_option maxHeartbeats 1000000 in
theorem fix_signed_mul (neg up:Bool) (p0 p1:Value) (q:Nat×Bool) (hq:q.1<18446744073709551616) (w:World) (hg:Calls Tryz.prog 122 #[.bool (up != neg),p0,p1] w fun e w'=>e=.returned (.tuple #[.int .u64 (q.1:Nat),.bool q.2])/\Below w.heap.size w w') :
  Calls Tryz.prog 113 #[.bool neg,.bool up,.func (.func 122) #[] #[p0,p1]] w fun e w'=>e=.returned (.tuple #[.int .i64 (sgn neg q).1,.int .i64 (sgn neg q).2])/\Below w.heap.size w w':=by
 obtain ⟨q,f⟩:=q
 have hg:=Lib.hid hg
 simp only at hq
 cases f
 ·have HS:=Lib.hid (sgn_false neg q)
  cases up<;>cases neg<;>(
   go_enter Tryz.func113,Tryz.ntmps113
   go_wp2_with (go_at_call 122;refine (hg.out).mono ?_;rintro e w' ⟨rfl,hbel⟩)
   go_ret2
   exact ⟨ret2 HS.out,hbel⟩)
 ·by_cases hc:4503599627370496<q
  ·have hb:decide ((4503599627370496:Int)<(q:Int))=true:=by simp;omega
   have HS:=Lib.hid (sgn_far (f:=true) neg hc)
   clear hc
   cases up<;>cases neg<;>(
    go_enter Tryz.func113,Tryz.ntmps113
    go_wp2_with (go_at_call 122;refine (hg.out).mono ?_;rintro e w' ⟨rfl,hbel⟩)
    go_ret2
    exact ⟨ret2 HS.out,hbel⟩)
  ·have hb:decide ((4503599627370496:Int)<(q:Int))=false:=by simp;omega
   have hqs:q<=4503599627370496:=by omega
   have HS:=Lib.hid (sgn_near neg (by omega:q<=4503599627370496))
   clear hc
   cases up<;>cases neg<;>(
    go_enter Tryz.func113,Tryz.ntmps113
    go_wp2_with (go_at_call 122;refine (hg.out).mono ?_;rintro e w' ⟨rfl,hbel⟩)
    go_ret2
    exact ⟨ret2 HS.out,hbel⟩)

set_option maxHeartbeats 1000000 in
theorem fix_signed_div (neg up:Bool) (p0 p1:Value) (q:Nat×Bool) (hq:q.1<18446744073709551616) (w:World) (hg:Calls Tryz.prog 114 #[.bool (up != neg),p0,p1] w fun e w'=>e=.returned (.tuple #[.int .u64 (q.1:Nat),.bool q.2])/\Below w.heap.size w w') :
  Calls Tryz.prog 113 #[.bool neg,.bool up,.func (.func 114) #[] #[p0,p1]] w fun e w'=>e=.returned (.tuple #[.int .i64 (sgn neg q).1,.int .i64 (sgn neg q).2])/\Below w.heap.size w w':=by
 obtain ⟨q,f⟩:=q
 have hg:=Lib.hid hg
 simp only at hq
 cases f
 ·have HS:=Lib.hid (sgn_false neg q)
  cases up<;>cases neg<;>(
   go_enter Tryz.func113,Tryz.ntmps113
   go_wp2_with (go_at_call 114;refine (hg.out).mono ?_;rintro e w' ⟨rfl,hbel⟩)
   go_ret2
   exact ⟨ret2 HS.out,hbel⟩)
 ·by_cases hc:4503599627370496<q
  ·have hb:decide ((4503599627370496:Int)<(q:Int))=true:=by simp;omega
   have HS:=Lib.hid (sgn_far (f:=true) neg hc)
   clear hc
   cases up<;>cases neg<;>(
    go_enter Tryz.func113,Tryz.ntmps113
    go_wp2_with (go_at_call 114;refine (hg.out).mono ?_;rintro e w' ⟨rfl,hbel⟩)
    go_ret2
    exact ⟨ret2 HS.out,hbel⟩)
  ·have hb:decide ((4503599627370496:Int)<(q:Int))=false:=by simp;omega
   have hqs:q<=4503599627370496:=by omega
   have HS:=Lib.hid (sgn_near neg (by omega:q<=4503599627370496))
   clear hc
   cases up<;>cases neg<;>(
    go_enter Tryz.func113,Tryz.ntmps113
    go_wp2_with (go_at_call 114;refine (hg.out).mono ?_;rintro e w' ⟨rfl,hbel⟩)
    go_ret2
    exact ⟨ret2 HS.out,hbel⟩)

set_option maxHeartbeats 1000000 in
theorem fix_signed_rt (neg up:Bool) (p0:Value) (q:Nat×Bool) (hq:q.1<18446744073709551616) (w:World) (hg:Calls Tryz.prog 124 #[.bool (up != neg),p0] w fun e w'=>e=.returned (.tuple #[.int .u64 (q.1:Nat),.bool q.2])/\Below w.heap.size w w') :
  Calls Tryz.prog 113 #[.bool neg,.bool up,.func (.func 124) #[] #[p0]] w fun e w'=>e=.returned (.tuple #[.int .i64 (sgn neg q).1,.int .i64 (sgn neg q).2])/\Below w.heap.size w w':=by
 obtain ⟨q,f⟩:=q
 have hg:=Lib.hid hg
 simp only at hq
 cases f
 ·have HS:=Lib.hid (sgn_false neg q)
  cases up<;>cases neg<;>(
   go_enter Tryz.func113,Tryz.ntmps113
   go_wp2_with (go_at_call 124;refine (hg.out).mono ?_;rintro e w' ⟨rfl,hbel⟩)
   go_ret2
   exact ⟨ret2 HS.out,hbel⟩)
 ·by_cases hc:4503599627370496<q
  ·have hb:decide ((4503599627370496:Int)<(q:Int))=true:=by simp;omega
   have HS:=Lib.hid (sgn_far (f:=true) neg hc)
   clear hc
   cases up<;>cases neg<;>(
    go_enter Tryz.func113,Tryz.ntmps113
    go_wp2_with (go_at_call 124;refine (hg.out).mono ?_;rintro e w' ⟨rfl,hbel⟩)
    go_ret2
    exact ⟨ret2 HS.out,hbel⟩)
  ·have hb:decide ((4503599627370496:Int)<(q:Int))=false:=by simp;omega
   have hqs:q<=4503599627370496:=by omega
   have HS:=Lib.hid (sgn_near neg (by omega:q<=4503599627370496))
   clear hc
   cases up<;>cases neg<;>(
    go_enter Tryz.func113,Tryz.ntmps113
    go_wp2_with (go_at_call 124;refine (hg.out).mono ?_;rintro e w' ⟨rfl,hbel⟩)
    go_ret2
    exact ⟨ret2 HS.out,hbel⟩)

theorem split128 (n:Nat):n / 18446744073709551616*18446744073709551616+n % 18446744073709551616=n:=by omega

theorem fix_quotient' (n d:Nat) (away:Bool) (hd:d<18446744073709551616) (w:World) :
  Calls Tryz.prog 115 #[.agg #[.int .u64 ((n / 18446744073709551616:Nat):Int),.int .u64 ((n % 18446744073709551616:Nat):Int)],.int .u64 (d:Int),.bool away] w fun e w'=>e=.returned (.tuple #[.int .u64 ((quo n d away).1:Nat),.bool (quo n d away).2])/\Below w.heap.size w w':=by
 have h:=fix_quotient (n / 18446744073709551616) (n % 18446744073709551616) d away (Nat.mod_lt _ (by omega)) hd w
 rw [split128] at h
 exact h

theorem fix_quotient_one (n:Nat) (away:Bool) (w:World) :
  Calls Tryz.prog 115 #[.agg #[.int .u64 ((n / 18446744073709551616:Nat):Int),.int .u64 ((n % 18446744073709551616:Nat):Int)],.int .u64 4294967296,.bool away] w fun e w'=>e=.returned (.tuple #[.int .u64 ((quo n 4294967296 away).1:Nat),.bool (quo n 4294967296 away).2])/\Below w.heap.size w w':=by
 have h:=fix_quotient' n 4294967296 away (by omega) w
 rw [show ((4294967296:Nat):Int)=4294967296 from rfl] at h
 exact h

theorem fix_product_one (x:Nat) (hx:x<18446744073709551616) (w:World) :
  Calls Tryz.prog 116 #[.int .u64 x,.int .u64 4294967296] w fun e w'=>e=.returned (.agg #[.int .u64 ((x*4294967296 / 18446744073709551616:Nat):Int),.int .u64 ((x*4294967296 % 18446744073709551616:Nat):Int)])/\Below w.heap.size w w':=by
 have h:=fix_product x 4294967296 hx (by omega) w
 rw [show ((4294967296:Nat):Int)=4294967296 from rfl] at h
 exact h

theorem below_step {w W W':World} (h:Below w.heap.size w W) (k:Below W.heap.size W W'):Below w.heap.size w W':=h.trans (k.mono h.size)
theorem keep2 {w W:World} {p0 p1:Addr} {v0 v1:Value} (l0:p0.block<w.heap.size) (l1:p1.block<w.heap.size) (c0:w.cell? p0=some v0) (c1:w.cell? p1=some v1) (h:Below w.heap.size w W):W.cell? p0=some v0/\W.cell? p1=some v1/\Below w.heap.size w W:=⟨(h.cell l0).trans c0,(h.cell l1).trans c1,h⟩
set_option maxHeartbeats 1000000 in
theorem fix_mul1 (a b:Int) (ha:ok a) (hb:ok b) (away:Bool) (w:World) (B0 B1:Nat) (l0:B0<w.heap.size) (l1:B1<w.heap.size) (c0:w.cell? ⟨B0,0,none⟩=some (.int .i64 a)) (c1:w.cell? ⟨B1,0,none⟩=some (.int .i64 b)) :
  Calls Tryz.prog 122 #[.bool away,.pointer (some ⟨B0,0,none⟩),.pointer (some ⟨B1,0,none⟩)] w fun e w'=>e=.returned (.tuple #[.int .u64 ((quo (a.natAbs*b.natAbs) 4294967296 away).1:Nat),.bool (quo (a.natAbs*b.natAbs) 4294967296 away).2])/\Below w.heap.size w w':=by
 have HsA:=Lib.hid (fun W=>fix_size a W (by have:=ha.1;omega) (by have:=ha.2;omega))
 have HsB:=Lib.hid (fun W=>fix_size b W (by have:=hb.1;omega) (by have:=hb.2;omega))
 have HP:=Lib.hid (fun W=>fix_product a.natAbs b.natAbs (by have:=ha.1;have:=ha.2;omega) (by have:=hb.1;have:=hb.2;omega) W)
 have HQ:=Lib.hid (fun W=>fix_quotient_one (a.natAbs*b.natAbs) away W)
 clear ha hb
 obtain ⟨x,hx⟩:∃x,x=a.natAbs:=⟨_,rfl⟩
 obtain ⟨y,hy⟩:∃y,y=b.natAbs:=⟨_,rfl⟩
 rw [←hx] at HsA HP HQ
 rw [←hy] at HsB HP HQ
 rw [←hx,←hy]
 clear hx hy
 obtain ⟨n,hn⟩:∃n,n=x*y:=⟨_,rfl⟩
 rw [←hn] at HP HQ ⊢
 clear hn
 obtain ⟨nh,hnh⟩:∃nh,nh=n / 18446744073709551616:=⟨_,rfl⟩
 obtain ⟨nl,hnl⟩:∃nl,nl=n % 18446744073709551616:=⟨_,rfl⟩
 rw [←hnh,←hnl] at HP HQ
 clear hnh hnl
 obtain ⟨qq,hqq⟩:∃qq,qq=quo n 4294967296 away:=⟨_,rfl⟩
 rw [←hqq] at HQ ⊢
 clear hqq
 go_enter Tryz.func122,Tryz.ntmps122
 go_wp2_with fail
 go_region_held3 (fun w'=>w'.cell? ⟨B0,0,none⟩=some (.int .i64 a)/\w'.cell? ⟨B1,0,none⟩=some (.int .i64 b)/\Below w.heap.size w w')
  (first
   | exact keep2 l0 l1 c0 c1 (Below.refl _ _).drew
   | (go_split_ands;exact keep2 l0 l1 c0 c1 (by assumption))
   | (go_split_ands;exact keep2 l0 l1 c0 c1 (below_step (by assumption) hbel)))
  (first
   | (go_at_call_of 117 a;refine (HsA.out _).mono ?_;rintro e w' ⟨rfl,rfl⟩)
   | (go_at_call_of 117 b;refine (HsB.out _).mono ?_;rintro e w' ⟨rfl,rfl⟩)
   | (go_at_call 116;refine (HP.out _).mono ?_;rintro e w' ⟨rfl,hbel⟩)
   | (go_at_call 115;refine (HQ.out _).mono ?_;rintro e w' ⟨rfl,hbel⟩))
 go_wp2
 go_ret2
 exact ⟨rfl,by go_split_ands;assumption⟩

set_option maxHeartbeats 1000000 in
theorem fix_div1 (a b:Int) (ha:ok a) (hb:ok b) (away:Bool) (w:World) (B0 B1:Nat) (l0:B0<w.heap.size) (l1:B1<w.heap.size) (c0:w.cell? ⟨B0,0,none⟩=some (.int .i64 a)) (c1:w.cell? ⟨B1,0,none⟩=some (.int .i64 b)) :
  Calls Tryz.prog 114 #[.bool away,.pointer (some ⟨B0,0,none⟩),.pointer (some ⟨B1,0,none⟩)] w fun e w'=>e=.returned (.tuple #[.int .u64 ((quo (a.natAbs*4294967296) b.natAbs away).1:Nat),.bool (quo (a.natAbs*4294967296) b.natAbs away).2])/\Below w.heap.size w w':=by
 have HsA:=Lib.hid (fun W=>fix_size a W (by have:=ha.1;omega) (by have:=ha.2;omega))
 have HsB:=Lib.hid (fun W=>fix_size b W (by have:=hb.1;omega) (by have:=hb.2;omega))
 have HP:=Lib.hid (fun W=>fix_product_one a.natAbs (by have:=ha.1;have:=ha.2;omega) W)
 have HQ:=Lib.hid (fun W=>fix_quotient' (a.natAbs*4294967296) b.natAbs away (by have:=hb.1;have:=hb.2;omega) W)
 clear ha hb
 obtain ⟨x,hx⟩:∃x,x=a.natAbs:=⟨_,rfl⟩
 obtain ⟨y,hy⟩:∃y,y=b.natAbs:=⟨_,rfl⟩
 rw [←hx] at HsA HP HQ
 rw [←hy] at HsB HQ
 rw [←hx,←hy]
 clear hx hy
 obtain ⟨n,hn⟩:∃n,n=x*4294967296:=⟨_,rfl⟩
 rw [←hn] at HP HQ ⊢
 clear hn
 obtain ⟨nh,hnh⟩:∃nh,nh=n / 18446744073709551616:=⟨_,rfl⟩
 obtain ⟨nl,hnl⟩:∃nl,nl=n % 18446744073709551616:=⟨_,rfl⟩
 rw [←hnh,←hnl] at HP HQ
 clear hnh hnl
 obtain ⟨qq,hqq⟩:∃qq,qq=quo n y away:=⟨_,rfl⟩
 rw [←hqq] at HQ ⊢
 clear hqq
 go_enter Tryz.func114,Tryz.ntmps114
 go_wp2_with fail
 go_region_held3 (fun w'=>w'.cell? ⟨B0,0,none⟩=some (.int .i64 a)/\w'.cell? ⟨B1,0,none⟩=some (.int .i64 b)/\Below w.heap.size w w')
  (first
   | exact keep2 l0 l1 c0 c1 (Below.refl _ _).drew
   | (go_split_ands;exact keep2 l0 l1 c0 c1 (by assumption))
   | (go_split_ands;exact keep2 l0 l1 c0 c1 (below_step (by assumption) hbel)))
  (first
   | (go_at_call_of 117 a;refine (HsA.out _).mono ?_;rintro e w' ⟨rfl,rfl⟩)
   | (go_at_call_of 117 b;refine (HsB.out _).mono ?_;rintro e w' ⟨rfl,rfl⟩)
   | (go_at_call 116;refine (HP.out _).mono ?_;rintro e w' ⟨rfl,hbel⟩)
   | (go_at_call 115;refine (HQ.out _).mono ?_;rintro e w' ⟨rfl,hbel⟩))
 go_wp2
 go_ret2
 exact ⟨rfl,by go_split_ands;assumption⟩


theorem fix_all2_box (a b:Int) (w:World) :
  Calls Tryz.prog 112 #[.slice (some ⟨w.heap.size+1+1,0,none⟩) 2 2] (((w.alloc (.cells #[.int .i64 a] 3)).alloc (.cells #[.int .i64 b] 3)).alloc (.cells #[.int .i64 a,.int .i64 b] 3)) fun e w'=>e=.returned (.int .i64 (chk2 a b))/\((w.alloc (.cells #[.int .i64 a] 3)).alloc (.cells #[.int .i64 b] 3)).alloc (.cells #[.int .i64 a,.int .i64 b] 3)=w':=by
 have h:=fix_all2_new a b ((w.alloc (.cells #[.int .i64 a] 3)).alloc (.cells #[.int .i64 b] 3))
 rw [show ((w.alloc (.cells #[.int .i64 a] 3)).alloc (.cells #[.int .i64 b] 3)).heap.size=w.heap.size+1+1 by simp] at h
 exact h

theorem box_a (w:World) (u v:Value) (o o':TypeId) (C:Obj):(((w.alloc (.cells #[u] o)).alloc (.cells #[v] o')).alloc C).cell? ⟨w.heap.size,0,none⟩=some u:=by
 have h:Below (w.heap.size+1) (w.alloc (.cells #[u] o)) (((w.alloc (.cells #[u] o)).alloc (.cells #[v] o')).alloc C):=((Below.refl _ _).alloc (by simp) _).alloc (by simp) _
 rw [h.cell (by simp)]
 simp
theorem box_b (w:World) (u v:Value) (o o':TypeId) (C:Obj):(((w.alloc (.cells #[u] o)).alloc (.cells #[v] o')).alloc C).cell? ⟨w.heap.size+1,0,none⟩=some v:=by
 have h:Below (w.heap.size+1+1) ((w.alloc (.cells #[u] o)).alloc (.cells #[v] o')) (((w.alloc (.cells #[u] o)).alloc (.cells #[v] o')).alloc C):=(Below.refl _ _).alloc (by simp) _
 rw [h.cell (by simp)]
 have e:w.heap.size+1=(w.alloc (.cells #[u] o)).heap.size:=by simp
 rw [e]
 generalize w.alloc (.cells #[u] o)=W
 simp

set_option maxHeartbeats 1000000 in
theorem fix_multiplied (a b:Int) (up:Bool) (w:World) :
  Calls Tryz.prog 103 #[.int .i64 a,.int .i64 b,.bool up] w fun e w'=>e=.returned (.tuple #[.int .i64 (mul up a b).1,.int .i64 (mul up a b).2])/\Below w.heap.size w w':=by
 by_cases h:ok a/\ok b
 ·obtain ⟨ha,hb⟩:=h
  have Hc:=Lib.hid (chk2_ok ha hb)
  have Hr:=Lib.hid (mul_ok up ha hb)
  have HS:=Lib.hid (fun (W:World) (B0 B1:Nat) l0 l1 c0 c1=>fix_signed_mul (decide (a<0) != decide (b<0)) up (.pointer (some ⟨B0,0,none⟩)) (.pointer (some ⟨B1,0,none⟩)) _ (quo_lt _ _ _) W (fix_mul1 a b ha hb _ W B0 B1 l0 l1 c0 c1))
  clear ha hb
  go_enter Tryz.func103,Tryz.ntmps103
  go_wp2_with (first | (go_at_call 112;refine (fix_all2_box _ _ _).mono ?_;rintro e w' ⟨rfl,rfl⟩;rw [Hc.out]) | (go_at_call 113;refine (HS.out _ _ _ (by simp;omega) (by simp) (box_a _ _ _ _ _ _) (box_b _ _ _ _ _ _)).mono ?_;rintro e w' ⟨rfl,hbel⟩))
  go_ret2
  exact ⟨ret2 (by rw [Hr.out]),below_step ((((Below.refl _ _).alloc (Nat.le_refl _) _).alloc (by simp) _).alloc (by simp;omega) _) hbel⟩
 ·have Hc:=Lib.hid (chk2_bad h)
  have Hr:=Lib.hid (mul_bad up h)
  clear h
  go_enter Tryz.func103,Tryz.ntmps103
  go_wp2_with (go_at_call 112;refine (fix_all2_box _ _ _).mono ?_;rintro e w' ⟨rfl,rfl⟩;rw [Hc.out])
  go_ret2
  exact ⟨ret2 Hr.out,(((Below.refl _ _).alloc (Nat.le_refl _) _).alloc (by simp) _).alloc (by simp;omega) _⟩

set_option maxHeartbeats 1000000 in
theorem fix_divided (a b:Int) (up:Bool) (w:World) :
  Calls Tryz.prog 98 #[.int .i64 a,.int .i64 b,.bool up] w fun e w'=>e=.returned (.tuple #[.int .i64 (dvd up a b).1,.int .i64 (dvd up a b).2])/\Below w.heap.size w w':=by
 by_cases h:ok a/\ok b
 ·obtain ⟨ha,hb⟩:=h
  have Hc:=Lib.hid (chk2_ok ha hb)
  by_cases hz:b=0
  ·have Hr:=Lib.hid (dvd_zero up ha hb hz)
   subst hz
   clear ha hb
   go_enter Tryz.func98,Tryz.ntmps98
   go_wp2_with (go_at_call 112;refine (fix_all2_box _ _ _).mono ?_;rintro e w' ⟨rfl,rfl⟩;rw [Hc.out])
   go_ret2
   exact ⟨ret2 Hr.out,(((Below.refl _ _).alloc (Nat.le_refl _) _).alloc (by simp) _).alloc (by simp;omega) _⟩
  ·have Hr:=Lib.hid (dvd_ok up ha hb hz)
   have hz:decide (b=0)=false:=by simp;omega
   have HS:=Lib.hid (fun (W:World) (B0 B1:Nat) l0 l1 c0 c1=>fix_signed_div (decide (a<0) != decide (b<0)) up (.pointer (some ⟨B0,0,none⟩)) (.pointer (some ⟨B1,0,none⟩)) _ (quo_lt _ _ _) W (fix_div1 a b ha hb _ W B0 B1 l0 l1 c0 c1))
   clear ha hb
   go_enter Tryz.func98,Tryz.ntmps98
   go_wp2_with (first | (go_at_call 112;refine (fix_all2_box _ _ _).mono ?_;rintro e w' ⟨rfl,rfl⟩;rw [Hc.out]) | (go_at_call 113;refine (HS.out _ _ _ (by simp;omega) (by simp) (box_a _ _ _ _ _ _) (box_b _ _ _ _ _ _)).mono ?_;rintro e w' ⟨rfl,hbel⟩))
   go_ret2
   exact ⟨ret2 (by rw [Hr.out]),below_step ((((Below.refl _ _).alloc (Nat.le_refl _) _).alloc (by simp) _).alloc (by simp;omega) _) hbel⟩
 ·have Hc:=Lib.hid (chk2_bad h)
  have Hr:=Lib.hid (dvd_bad up h)
  clear h
  go_enter Tryz.func98,Tryz.ntmps98
  go_wp2_with (go_at_call 112;refine (fix_all2_box _ _ _).mono ?_;rintro e w' ⟨rfl,rfl⟩;rw [Hc.out])
  go_ret2
  exact ⟨ret2 Hr.out,(((Below.refl _ _).alloc (Nat.le_refl _) _).alloc (by simp) _).alloc (by simp;omega) _⟩

theorem fix_MulDown (a b:Int) (w:World) :
  Calls Tryz.prog 85 #[.int .i64 a,.int .i64 b] w fun e w'=>e=.returned (.tuple #[.int .i64 (mul false a b).1,.int .i64 (mul false a b).2])/\Below w.heap.size w w':=by
 have H:=Lib.hid (fun W=>fix_multiplied a b false W)
 go_enter Tryz.func85,Tryz.ntmps85
 go_wp2_with (go_at_call 103;refine (H.out _).mono ?_;rintro e w' ⟨rfl,hbel⟩)
 go_ret2
 exact ⟨rfl,hbel⟩

theorem fix_MulUp (a b:Int) (w:World) :
  Calls Tryz.prog 86 #[.int .i64 a,.int .i64 b] w fun e w'=>e=.returned (.tuple #[.int .i64 (mul true a b).1,.int .i64 (mul true a b).2])/\Below w.heap.size w w':=by
 have H:=Lib.hid (fun W=>fix_multiplied a b true W)
 go_enter Tryz.func86,Tryz.ntmps86
 go_wp2_with (go_at_call 103;refine (H.out _).mono ?_;rintro e w' ⟨rfl,hbel⟩)
 go_ret2
 exact ⟨rfl,hbel⟩

theorem fix_DivDown (a b:Int) (w:World) :
  Calls Tryz.prog 78 #[.int .i64 a,.int .i64 b] w fun e w'=>e=.returned (.tuple #[.int .i64 (dvd false a b).1,.int .i64 (dvd false a b).2])/\Below w.heap.size w w':=by
 have H:=Lib.hid (fun W=>fix_divided a b false W)
 go_enter Tryz.func78,Tryz.ntmps78
 go_wp2_with (go_at_call 98;refine (H.out _).mono ?_;rintro e w' ⟨rfl,hbel⟩)
 go_ret2
 exact ⟨rfl,hbel⟩

theorem fix_DivUp (a b:Int) (w:World) :
  Calls Tryz.prog 79 #[.int .i64 a,.int .i64 b] w fun e w'=>e=.returned (.tuple #[.int .i64 (dvd true a b).1,.int .i64 (dvd true a b).2])/\Below w.heap.size w w':=by
 have H:=Lib.hid (fun W=>fix_divided a b true W)
 go_enter Tryz.func79,Tryz.ntmps79
 go_wp2_with (go_at_call 98;refine (H.out _).mono ?_;rintro e w' ⟨rfl,hbel⟩)
 go_ret2
 exact ⟨rfl,hbel⟩

set_option maxHeartbeats 1000000 in
theorem fix_atMost0 (a b c d:Int) (w:World) :
  Calls Tryz.prog 125 #[.agg #[.int .u64 a,.int .u64 b],.agg #[.int .u64 c,.int .u64 d]] w fun e w'=>e=.returned (.bool (decide (a<c∨a=c/\b<=d)))/\Below w.heap.size w w':=by
 by_cases h1:a<c
 ·rw [show decide (a<c∨a=c/\b<=d)=true by simp;omega]
  ·go_enter Tryz.func125,Tryz.ntmps125
   go_wp2
   go_ret
   exact ⟨rfl,((Below.refl _ _).alloc (Nat.le_refl _) _).alloc (by simp) _⟩
 ·by_cases h2:a=c
  ·subst h2
   by_cases h3:b<=d
   ·rw [show decide (a<a∨a=a/\b<=d)=true by simp;omega]
    go_enter Tryz.func125,Tryz.ntmps125
    go_wp2
    go_ret
    exact ⟨rfl,((Below.refl _ _).alloc (Nat.le_refl _) _).alloc (by simp) _⟩
   ·rw [show decide (a<a∨a=a/\b<=d)=false by simp;omega]
    go_enter Tryz.func125,Tryz.ntmps125
    go_wp2
    go_ret
    exact ⟨rfl,((Below.refl _ _).alloc (Nat.le_refl _) _).alloc (by simp) _⟩
  ·rw [show decide (a<c∨a=c/\b<=d)=false by simp;omega]
   go_enter Tryz.func125,Tryz.ntmps125
   go_wp2
   go_ret
   exact ⟨rfl,((Below.refl _ _).alloc (Nat.le_refl _) _).alloc (by simp) _⟩

theorem fix_atMost (n m:Nat) (w:World) :
  Calls Tryz.prog 125 #[.agg #[.int .u64 ((n / 18446744073709551616:Nat):Int),.int .u64 ((n % 18446744073709551616:Nat):Int)],.agg #[.int .u64 ((m / 18446744073709551616:Nat):Int),.int .u64 ((m % 18446744073709551616:Nat):Int)]] w fun e w'=>e=.returned (.bool (decide (n<=m)))/\Below w.heap.size w w':=by
 have h:=fix_atMost0 (n / 18446744073709551616:Nat) (n % 18446744073709551616:Nat) (m / 18446744073709551616:Nat) (m % 18446744073709551616:Nat) w
 rw [show decide (((n / 18446744073709551616:Nat):Int)<(m / 18446744073709551616:Nat)∨((n / 18446744073709551616:Nat):Int)=(m / 18446744073709551616:Nat)/\((n % 18446744073709551616:Nat):Int)<=(m % 18446744073709551616:Nat))=decide (n<=m) by apply decide_eq_decide.mpr;omega] at h
 exact h

theorem sq_bits {n k R:Nat} (hk:k<43) (h:SqAt n k R):bits .or .u64 (R:Int) (IntKind.u64.wrap (2 ^ (42-k)))=((R+2 ^ (42-k):Nat):Int):=by
 have hl:=sqAt_lt hk h
 have e:IntKind.u64.wrap (2 ^ (42-k))=((2 ^ (42-k):Nat):Int):=by
  have h2:((2:Int) ^ (42-k))=((2 ^ (42-k):Nat):Int):=by simp
  rw [h2]
  exact M64.wrapN _ (Nat.lt_of_le_of_lt (Nat.le_add_left _ _) hl)
 rw [e,←sqAt_or hk h]
 exact bits_or_u64_nat R (2 ^ (42-k)) (Nat.lt_of_le_of_lt (Nat.le_add_right _ _) hl) (Nat.lt_of_le_of_lt (Nat.le_add_left _ _) hl)

set_option maxHeartbeats 4000000 in
theorem fix_rt1 (n:Nat) (hn:n<2 ^ 86) (away:Bool) (w:World) (B0:Nat) (l0:B0<w.heap.size) (c0:w.cell? ⟨B0,0,none⟩=some (.int .u64 ((n / 18446744073709551616:Nat):Int))) (c1:w.cell? ⟨B0,1,none⟩=some (.int .u64 ((n % 18446744073709551616:Nat):Int))) :
  Calls Tryz.prog 124 #[.bool away,.pointer (some ⟨B0,0,none⟩)] w fun e w'=>e=.returned (.tuple #[.int .u64 (rtOf away n:Nat),.bool true])/\Below w.heap.size w w':=by
 obtain ⟨nh,hnh⟩:∃nh,nh=n / 18446744073709551616:=⟨_,rfl⟩
 obtain ⟨nl,hnl⟩:∃nl,nl=n % 18446744073709551616:=⟨_,rfl⟩
 rw [←hnh] at c0
 rw [←hnl] at c1
 have Hnh:=Lib.hid hnh
 have Hnl:=Lib.hid hnl
 have Hn:=Lib.hid hn
 clear hnh hnl hn
 obtain ⟨RR,hRR⟩:∃RR,RR=rtOf away n:=⟨_,rfl⟩
 rw [←hRR]
 have HRR:=Lib.hid hRR
 clear hRR
 go_enter Tryz.func124,Tryz.ntmps124
 go_wp2_with fail
 go_loopw [5,8] (fun r i wr=>∃k R:Nat,k<=43/\i=.int .i64 k/\r=.int .u64 R/\Hid (SqAt n k R)/\Below w.heap.size w wr) (fun _ i _=>43-(intOf i).toNat)
 case atStart=>exact ⟨0,0,by omega,rfl,rfl,Lib.hid (sqAt_start Hn.out),Below.refl _ _⟩
 case round =>
  obtain ⟨k,R,hk,rfl,rfl,HS,hbw⟩:=hrel
  rcases Nat.lt_or_ge k 43 with hk' | hk'
  ·have hb0:decide ((k:Int)<43)=true:=by simp;omega
   obtain ⟨X,hX⟩:∃X,X=R+2 ^ (42-k):=⟨_,rfl⟩
   have HX:=Lib.hid hX
   have HB:=Lib.hid (sq_bits hk' HS.out)
   rw [←hX] at HB
   clear hX
   have l0':B0<wr.heap.size:=Nat.lt_of_lt_of_le l0 hbw.size
   have c0':=(hbw.cell (p:=⟨B0,0,none⟩) l0).trans c0
   have c1':=(hbw.cell (p:=⟨B0,1,none⟩) l0).trans c1
   have HP:=Lib.hid (fun W=>fix_product X X (by rw [HX.out];exact sqAt_lt hk' HS.out) (by rw [HX.out];exact sqAt_lt hk' HS.out) W)
   have HA:=Lib.hid (fun W=>fix_atMost (X*X) n W)
   rw [←Hnh.out,←Hnl.out] at HA
   have HN1:Hid (∀h:X*X<=n,SqAt n (k+1) X):=Lib.hid (fun h=>by have e:=HX.out;rw [e] at h ⊢;exact sqAt_take hk' HS.out h)
   have HN2:Hid (∀h:¬X*X<=n,SqAt n (k+1) R):=Lib.hid (fun h=>by have e:=HX.out;rw [e] at h;exact sqAt_leave hk' HS.out h)
   obtain ⟨Y,hY⟩:∃Y,Y=X*X:=⟨_,rfl⟩
   rw [←hY] at HP HA HN1 HN2
   clear hY
   obtain ⟨yh,hyh⟩:∃yh,yh=Y / 18446744073709551616:=⟨_,rfl⟩
   obtain ⟨yl,hyl⟩:∃yl,yl=Y % 18446744073709551616:=⟨_,rfl⟩
   rw [←hyh,←hyl] at HP HA
   clear hyh hyl
   by_cases hle:Y<=n
   ·have HN:=Lib.hid (HN1.out hle)
    rw [decide_eq_true hle] at HA
    clear hle
    go_upto_region 6 with (fail)
    rw [HB.out]
    go_region_held3 (fun w'=>w'.cell? ⟨B0,0,none⟩=some (.int .u64 (nh:Int))/\w'.cell? ⟨B0,1,none⟩=some (.int .u64 (nl:Int))/\Below wr.heap.size wr w')
     (first
      | exact keep2 l0' l0' c0' c1' (Below.refl _ _).drew
      | (go_split_ands;exact keep2 l0' l0' c0' c1' (by assumption))
      | (go_split_ands;exact keep2 l0' l0' c0' c1' (below_step (by assumption) hbel)))
     (first
      | (go_at_call 116;refine (HP.out _).mono ?_;rintro e w' ⟨rfl,hbel⟩)
      | (go_at_call 125;refine (HA.out _).mono ?_;rintro e w' ⟨rfl,hbel⟩))
    go_wp2
    go_roundw
    case rel=>exact ⟨k+1,X,by omega,by go_num,rfl,HN,below_step hbw (by go_split_ands;assumption)⟩
    case measure=>simp [intOf];omega
   ·have HN:=Lib.hid (HN2.out hle)
    rw [decide_eq_false hle] at HA
    clear hle
    go_upto_region 6 with (fail)
    rw [HB.out]
    go_region_held3 (fun w'=>w'.cell? ⟨B0,0,none⟩=some (.int .u64 (nh:Int))/\w'.cell? ⟨B0,1,none⟩=some (.int .u64 (nl:Int))/\Below wr.heap.size wr w')
     (first
      | exact keep2 l0' l0' c0' c1' (Below.refl _ _).drew
      | (go_split_ands;exact keep2 l0' l0' c0' c1' (by assumption))
      | (go_split_ands;exact keep2 l0' l0' c0' c1' (below_step (by assumption) hbel)))
     (first
      | (go_at_call 116;refine (HP.out _).mono ?_;rintro e w' ⟨rfl,hbel⟩)
      | (go_at_call 125;refine (HA.out _).mono ?_;rintro e w' ⟨rfl,hbel⟩))
    go_wp2
    go_roundw
    case rel=>exact ⟨k+1,R,by omega,by go_num,rfl,HN,below_step hbw (by go_split_ands;assumption)⟩
    case measure=>simp [intOf];omega
  ·obtain rfl:k=43:=by omega
   have HI:=Lib.hid (sqAt_end HS.out)
   have l0':B0<wr.heap.size:=Nat.lt_of_lt_of_le l0 hbw.size
   have c0':=(hbw.cell (p:=⟨B0,0,none⟩) l0).trans c0
   have c1':=(hbw.cell (p:=⟨B0,1,none⟩) l0).trans c1
   cases away
   ·have HE:Hid (RR=R):=Lib.hid (by rw [HRR.out,rtOf,if_neg (by simp),HI.out])
    go_upto_region 9 with (fail)
    go_quiet (fail)
    go_wp2
    go_ret2
    exact ⟨by rw [HE.out];rfl,below_step hbw (below_drewN (Below.refl _ _) _)⟩
   ·have HP:=Lib.hid (fun W=>fix_product R R (by have:=HS.out.2.2.2;simp at this;omega) (by have:=HS.out.2.2.2;simp at this;omega) W)
    have HD:Hid (R*R=n∨¬R*R=n):=Lib.hid (Nat.decEq _ _).em
    have HE1:Hid (R*R=n->RR=R):=Lib.hid (fun h=>by rw [HRR.out,rtOf,HI.out,if_neg (by simp [h])])
    have HE2:Hid (¬R*R=n->RR=R+1):=Lib.hid (fun h=>by rw [HRR.out,rtOf,HI.out,if_pos ⟨rfl,h⟩])
    have HR:Hid (R<18446744073709551615):=Lib.hid (by have:=HS.out.2.2.2;simp at this;omega)
    obtain ⟨Y,hY⟩:∃Y,Y=R*R:=⟨_,rfl⟩
    rw [←hY] at HP HE1 HE2 HD
    clear hY
    obtain ⟨yh,hyh⟩:∃yh,yh=Y / 18446744073709551616:=⟨_,rfl⟩
    obtain ⟨yl,hyl⟩:∃yl,yl=Y % 18446744073709551616:=⟨_,rfl⟩
    rw [←hyh,←hyl] at HP
    by_cases e1:nh=yh
    ·by_cases e2:nl=yl
     ·have HE:=Lib.hid (HE1.out (by have:=Hnh.out;have:=Hnl.out;omega))
      subst e1 e2
      clear hyh hyl
      go_upto_region 9 with (fail)
      go_region_held3 (fun w'=>w'.cell? ⟨B0,0,none⟩=some (.int .u64 (nh:Int))/\w'.cell? ⟨B0,1,none⟩=some (.int .u64 (nl:Int))/\Below wr.heap.size wr w')
       (first
        | exact keep2 l0' l0' c0' c1' (Below.refl _ _).drew
        | (go_split_ands;exact keep2 l0' l0' c0' c1' (by assumption))
        | (go_split_ands;exact keep2 l0' l0' c0' c1' (below_step (by assumption) hbel)))
       (first
        | (go_at_call 116;refine (HP.out _).mono ?_;rintro e w' ⟨rfl,hbel⟩))
      go_wp2
      go_ret2
      exact ⟨by rw [HE.out];rfl,below_step hbw (by go_split_ands;assumption)⟩
     ·have HE:=Lib.hid (HE2.out (by have:=Hnh.out;have:=Hnl.out;rintro rfl;omega))
      have e3:¬(yl:Int)=(nl:Int):=by omega
      have hw1:IntKind.u64.wrap ((R:Int)+1)=((R+1:Nat):Int):=M64.wrapN (R+1) (by have:=HR.out;omega)
      have HW:=Lib.hid hw1
      subst e1
      clear hyh hyl hw1
      go_upto_region 9 with (fail)
      go_region_held3 (fun w'=>w'.cell? ⟨B0,0,none⟩=some (.int .u64 (nh:Int))/\w'.cell? ⟨B0,1,none⟩=some (.int .u64 (nl:Int))/\Below wr.heap.size wr w')
       (first
        | exact keep2 l0' l0' c0' c1' (Below.refl _ _).drew
        | (go_split_ands;exact keep2 l0' l0' c0' c1' (by assumption))
        | (go_split_ands;exact keep2 l0' l0' c0' c1' (below_step (by assumption) hbel)))
       (first
        | (go_at_call 116;refine (HP.out _).mono ?_;rintro e w' ⟨rfl,hbel⟩))
      go_wp2
      go_ret2
      exact ⟨by rw [HE.out,←HW.out];rfl,below_step hbw (by go_split_ands;assumption)⟩
    ·have HE:=Lib.hid (HE2.out (by have:=Hnh.out;have:=Hnl.out;rintro rfl;omega))
     have e3:¬(yh:Int)=(nh:Int):=by omega
     have hw1:IntKind.u64.wrap ((R:Int)+1)=((R+1:Nat):Int):=M64.wrapN (R+1) (by have:=HR.out;omega)
     have HW:=Lib.hid hw1
     clear hyh hyl hw1
     go_upto_region 9 with (fail)
     go_region_held3 (fun w'=>w'.cell? ⟨B0,0,none⟩=some (.int .u64 (nh:Int))/\w'.cell? ⟨B0,1,none⟩=some (.int .u64 (nl:Int))/\Below wr.heap.size wr w')
      (first
       | exact keep2 l0' l0' c0' c1' (Below.refl _ _).drew
       | (go_split_ands;exact keep2 l0' l0' c0' c1' (by assumption))
       | (go_split_ands;exact keep2 l0' l0' c0' c1' (below_step (by assumption) hbel)))
      (first
       | (go_at_call 116;refine (HP.out _).mono ?_;rintro e w' ⟨rfl,hbel⟩))
     go_wp2
     go_ret2
     exact ⟨by rw [HE.out,←HW.out];rfl,below_step hbw (by go_split_ands;assumption)⟩

set_option maxHeartbeats 1000000 in
theorem fix_root (a:Int) (up:Bool) (w:World) :
  Calls Tryz.prog 104 #[.int .i64 a,.bool up] w fun e w'=>e=.returned (.tuple #[.int .i64 (rt up a).1,.int .i64 (rt up a).2])/\Below w.heap.size w w':=by
 by_cases ha:ok a
 ·have Hc:=Lib.hid (chk_ok ha)
  by_cases h0:a<0
  ·have Hr:=Lib.hid (rt_bad up (a:=a) (by omega))
   clear ha
   go_enter Tryz.func104,Tryz.ntmps104
   go_wp2_with (go_at_call 123;refine (fix_Check _ _).mono ?_;rintro e w' ⟨rfl,rfl⟩;rw [Hc.out])
   go_ret2
   exact ⟨ret2 Hr.out,Below.refl _ _⟩
  ·obtain ⟨A,rfl⟩:∃A:Nat,a=A:=⟨a.toNat,by omega⟩
   have Hr:=Lib.hid (rt_ok up ha (by omega))
   rw [Int.toNat_natCast] at Hr
   have hA:A<=4503599627370496:=by have:=ha.2;omega
   have HP:=Lib.hid (fun W=>fix_product_one A (by omega) W)
   have hw:IntKind.u64.wrap (A:Int)=(A:Int):=M64.wrapN A (by omega)
   have hb:decide ((A:Int)<0)=false:=by simp
   obtain ⟨n,hn⟩:∃n,n=A*4294967296:=⟨_,rfl⟩
   rw [←hn] at HP Hr
   have h86:n<2 ^ 86:=by
    have:(2:Nat) ^ 86=77371252455336267181195264:=by decide
    omega
   have HL:=Lib.hid (sgn_near false (q:=rtOf up n) (rtOf_le up (by omega)))
   have HQ:rtOf up n<18446744073709551616:=by
    have:=rtOf_le up (n:=n) (r:=4503599627370496) (by omega)
    omega
   have HS:Hid (∀(W:World) (B0:Nat),B0<W.heap.size->W.cell? ⟨B0,0,none⟩=some (.int .u64 ((n / 18446744073709551616:Nat):Int))->W.cell? ⟨B0,1,none⟩=some (.int .u64 ((n % 18446744073709551616:Nat):Int)) ->
     Calls Tryz.prog 113 #[.bool false,.bool up,.func (.func 124) #[] #[.pointer (some ⟨B0,0,none⟩)]] W fun e w'=>e=.returned (.tuple #[.int .i64 (sgn false (rtOf up n,true)).1,.int .i64 (sgn false (rtOf up n,true)).2])/\Below W.heap.size W w') :=
    Lib.hid (fun W B0 l0 c0 c1=>fix_signed_rt false up (.pointer (some ⟨B0,0,none⟩)) (rtOf up n,true) HQ W (by have h:=fix_rt1 n h86 up W B0 l0 c0 c1;rw [←Bool.bne_false (b:=up)] at h;simpa using h))
   clear HQ
   obtain ⟨nh,hnh⟩:∃nh,nh=n / 18446744073709551616:=⟨_,rfl⟩
   obtain ⟨nl,hnl⟩:∃nl,nl=n % 18446744073709551616:=⟨_,rfl⟩
   rw [←hnh,←hnl] at HP
   rw [←hnh,←hnl] at HS
   rw [HL.out] at HS
   clear ha h0 hA hn h86 hnh hnl
   go_enter Tryz.func104,Tryz.ntmps104
   go_wp2_with (first | (go_at_call 123;refine (fix_Check _ _).mono ?_;rintro e w' ⟨rfl,rfl⟩;rw [Hc.out]) | (go_at_call 116;refine (HP.out _).mono ?_;rintro e w' ⟨rfl,hbel⟩) | (go_at_call 113;refine (HS.out _ _ (by simp) (by simp) (by simp)).mono ?_;rintro e w' ⟨rfl,hbel2⟩))
   go_ret2
   refine ⟨ret2 (by rw [Hr.out]),below_step ?_ hbel2⟩
   exact hbel.alloc hbel.size _
 ·have Hc:=Lib.hid (chk_bad ha)
  have Hr:=Lib.hid (rt_bad up (a:=a) (fun h=>ha h.1))
  clear ha
  go_enter Tryz.func104,Tryz.ntmps104
  go_wp2_with (go_at_call 123;refine (fix_Check _ _).mono ?_;rintro e w' ⟨rfl,rfl⟩;rw [Hc.out])
  go_ret2
  exact ⟨ret2 Hr.out,Below.refl _ _⟩

theorem fix_SqrtDown (a:Int) (w:World) :
  Calls Tryz.prog 87 #[.int .i64 a] w fun e w'=>e=.returned (.tuple #[.int .i64 (rt false a).1,.int .i64 (rt false a).2])/\Below w.heap.size w w':=by
 have H:=Lib.hid (fun W=>fix_root a false W)
 go_enter Tryz.func87,Tryz.ntmps87
 go_wp2_with (go_at_call 104;refine (H.out _).mono ?_;rintro e w' ⟨rfl,hbel⟩)
 go_ret2
 exact ⟨rfl,hbel⟩

theorem fix_SqrtUp (a:Int) (w:World) :
  Calls Tryz.prog 88 #[.int .i64 a] w fun e w'=>e=.returned (.tuple #[.int .i64 (rt true a).1,.int .i64 (rt true a).2])/\Below w.heap.size w w':=by
 have H:=Lib.hid (fun W=>fix_root a true W)
 go_enter Tryz.func88,Tryz.ntmps88
 go_wp2_with (go_at_call 104;refine (H.out _).mono ?_;rintro e w' ⟨rfl,hbel⟩)
 go_ret2
 exact ⟨rfl,hbel⟩


structure DecMem (w wr:World) (a:Int) (k:Nat) (x y:Int):Prop where
 bel:Below w.heap.size w wr
 b0:wr.heap[w.heap.size]?=some (.cells #[.int .i64 a] 3 (0,0))
 b1:wr.heap[w.heap.size+1]?=some (.cells #[.int .i64 (k:Int)] 3 (0,0))
 b2:wr.heap[w.heap.size+1+1]?=some (.cells #[.int .i64 x,.int .i64 y] 50 (0,0))

theorem DecMem.start (w:World) (a:Int) (k:Nat):DecMem w (((w.alloc (.cells #[.int .i64 a] 3)).alloc (.cells #[.int .i64 (k:Int)] 3)).alloc (.cells #[.int .i64 0,.int .i64 0] 50)) a k 0 0 where
 bel:=(((Below.refl _ _).alloc (Nat.le_refl _) _).alloc (by simp) _).alloc (by simp;omega) _
 b0:=by
  rw [Below.heap_alloc _ _ _ (by simp;omega),Below.heap_alloc _ _ _ (by simp)]
  exact heap_alloc_new w _
 b1:=by
  rw [Below.heap_alloc _ _ _ (by simp)]
  have h:=heap_alloc_new (w.alloc (.cells #[.int .i64 a] 3)) (.cells #[.int .i64 (k:Int)] 3)
  rw [show (w.alloc (.cells #[.int .i64 a] 3)).heap.size=w.heap.size+1 by simp] at h
  exact h
 b2:=by
  have h:=heap_alloc_new ((w.alloc (.cells #[.int .i64 a] 3)).alloc (.cells #[.int .i64 (k:Int)] 3)) (.cells #[.int .i64 0,.int .i64 0] 50)
  rw [show ((w.alloc (.cells #[.int .i64 a] 3)).alloc (.cells #[.int .i64 (k:Int)] 3)).heap.size=w.heap.size+1+1 by simp] at h
  exact h

theorem DecMem.set0 {w wr w':World} {a:Int} {k:Nat} {x y:Int} (h:DecMem w wr a k x y) (hb:Below wr.heap.size wr w') (z:Int):DecMem w (w'.setCell ⟨w.heap.size+1+1,0,none⟩ (.int .i64 z)) a k z y where
 bel:=(below_step h.bel hb).setCell (by simp;omega) _
 b0:=by rw [heap_setCell_other _ _ _ _ (by simp;omega),hb.block _ (lt_of_block h.b0)];exact h.b0
 b1:=by rw [heap_setCell_other _ _ _ _ (by simp),hb.block _ (lt_of_block h.b1)];exact h.b1
 b2:=by rw [heap_setCell_same _ _ _ _ _ _ ((hb.block _ (lt_of_block h.b2)).trans h.b2)];rfl

theorem DecMem.set1 {w wr w':World} {a:Int} {k:Nat} {x y:Int} (h:DecMem w wr a k x y) (hb:Below wr.heap.size wr w') (z:Int):DecMem w (w'.setCell ⟨w.heap.size+1+1,1,none⟩ (.int .i64 z)) a k x z where
 bel:=(below_step h.bel hb).setCell (by simp;omega) _
 b0:=by rw [heap_setCell_other _ _ _ _ (by simp;omega),hb.block _ (lt_of_block h.b0)];exact h.b0
 b1:=by rw [heap_setCell_other _ _ _ _ (by simp),hb.block _ (lt_of_block h.b1)];exact h.b1
 b2:=by rw [heap_setCell_same _ _ _ _ _ _ ((hb.block _ (lt_of_block h.b2)).trans h.b2)];rfl

theorem cell_two0 {w:World} {b:Nat} {u v:Value} {t:TypeId} (h:w.heap[b]?=some (.cells #[u,v] t (0,0))):w.cell? ⟨b,0,none⟩=some u:=by simp [World.cell?,h]
theorem cell_two1 {w:World} {b:Nat} {u v:Value} {t:TypeId} (h:w.heap[b]?=some (.cells #[u,v] t (0,0))):w.cell? ⟨b,1,none⟩=some v:=by simp [World.cell?,h]
theorem free_two {w:World} {b i:Nat} {u v:Value} {t:TypeId} (h:w.heap[b]?=some (.cells #[u,v] t (0,0))):w.frozen? ⟨b,i,none⟩=false:=by simp [World.frozen?,h]

end Go.Proofs.YthhkcfpljgdnhaaGreat
