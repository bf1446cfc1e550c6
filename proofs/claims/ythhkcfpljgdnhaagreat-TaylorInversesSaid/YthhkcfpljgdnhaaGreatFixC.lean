/- Contracts of math/bits.Len64: the kit's own template of Len64's walk, at this seat's numbers. -/
import Derived.Test.YthhkcfpljgdnhaaGreatProg
import Derived.Lib.Strings
import Derived.Lib.Slices
import Derived.Lib.Small
import Derived.Lib.Walk
import Derived.Lib.BitFns
namespace Go.Proofs.YthhkcfpljgdnhaaGreat

set_option maxHeartbeats 4000000 in
set_option maxRecDepth 100000 in
theorem bits_Len64 (x:Int) (w:World) (h0:0<=x) (h1:x<=18446744073709551615) :
    Calls Tryz.prog 130 #[.int .u64 x] w fun e w'=>e=.returned (.int .i64 (Lib.bitLen x.toNat))/\w'=w:=by
  go_enter Tryz.func130,Tryz.ntmps130
  go_wp2
  all_goals (go_ret;refine ⟨congrArg Ending.returned (congrArg (Value.int IntKind.i64) ?_),rfl⟩)
  all_goals first
    | (rw [Lib.len8_of (x / 4294967296 / 65536 / 256 % 256) (by omega) (by omega)]
       have e:(x / 4294967296 / 65536 / 256 % 256).toNat=x.toNat / 72057594037927936:=by omega
       have l:=Lib.bitLen_le8' (x / 4294967296 / 65536 / 256 % 256) (by omega) (by omega)
       have s:=Lib.bitLen_shift56 x.toNat (by omega) (by omega)
       rw [e] at l ⊢
       omega)
    | (rw [Lib.len8_of (x / 4294967296 / 65536 % 256) (by omega) (by omega)]
       have e:(x / 4294967296 / 65536 % 256).toNat=x.toNat / 281474976710656:=by omega
       have l:=Lib.bitLen_le8' (x / 4294967296 / 65536 % 256) (by omega) (by omega)
       have s:=Lib.bitLen_shift48 x.toNat (by omega) (by omega)
       rw [e] at l ⊢
       omega)
    | (rw [Lib.len8_of (x / 4294967296 / 256 % 256) (by omega) (by omega)]
       have e:(x / 4294967296 / 256 % 256).toNat=x.toNat / 1099511627776:=by omega
       have l:=Lib.bitLen_le8' (x / 4294967296 / 256 % 256) (by omega) (by omega)
       have s:=Lib.bitLen_shift40 x.toNat (by omega) (by omega)
       rw [e] at l ⊢
       omega)
    | (rw [Lib.len8_of (x / 4294967296 % 256) (by omega) (by omega)]
       have e:(x / 4294967296 % 256).toNat=x.toNat / 4294967296:=by omega
       have l:=Lib.bitLen_le8' (x / 4294967296 % 256) (by omega) (by omega)
       have s:=Lib.bitLen_shift32 x.toNat (by omega) (by omega)
       rw [e] at l ⊢
       omega)
    | (rw [Lib.len8_of (x / 65536 / 256 % 256) (by omega) (by omega)]
       have e:(x / 65536 / 256 % 256).toNat=x.toNat / 16777216:=by omega
       have l:=Lib.bitLen_le8' (x / 65536 / 256 % 256) (by omega) (by omega)
       have s:=Lib.bitLen_shift24 x.toNat (by omega) (by omega)
       rw [e] at l ⊢
       omega)
    | (rw [Lib.len8_of (x / 65536 % 256) (by omega) (by omega)]
       have e:(x / 65536 % 256).toNat=x.toNat / 65536:=by omega
       have l:=Lib.bitLen_le8' (x / 65536 % 256) (by omega) (by omega)
       have s:=Lib.bitLen_shift16 x.toNat (by omega) (by omega)
       rw [e] at l ⊢
       omega)
    | (rw [Lib.len8_of (x / 256 % 256) (by omega) (by omega)]
       have e:(x / 256 % 256).toNat=x.toNat / 256:=by omega
       have l:=Lib.bitLen_le8' (x / 256 % 256) (by omega) (by omega)
       have s:=Lib.bitLen_shift8 x.toNat (by omega) (by omega)
       rw [e] at l ⊢
       omega)
    | (rw [Lib.len8_of (x % 256) (by omega) (by omega)]
       have e:(x % 256).toNat=x.toNat:=by omega
       have l:=Lib.bitLen_le8' (x % 256) (by omega) (by omega)
       rw [e] at l ⊢
       omega)


theorem bitLenAux_spec:∀(f x:Nat),x<2 ^ f->x<2 ^ Lib.bitLenAux f x/\(x≠0->1<=Lib.bitLenAux f x/\2 ^ (Lib.bitLenAux f x-1)<=x)/\Lib.bitLenAux f x<=f
  | 0,x,h=>by
    have:x=0:=by simpa using h
    subst this;simp [Lib.bitLenAux]
  | f+1,x,h=>by
    unfold Lib.bitLenAux
    by_cases h0:x=0
    · subst h0;simp
    · rw [if_neg h0]
      have ih:=bitLenAux_spec f (x / 2) (by rw [Nat.pow_succ] at h;omega)
      obtain ⟨i1,i2,i3⟩:=ih
      refine ⟨by rw [Nat.add_comm,Nat.pow_succ];omega,fun _=>⟨by omega,?_⟩,by omega⟩
      rw [Nat.add_sub_cancel_left]
      by_cases h2:x / 2=0
      · rw [h2] at i3 ⊢
        have:Lib.bitLenAux f 0=0:=by cases f<;>simp [Lib.bitLenAux]
        rw [this];simp;omega
      · obtain ⟨j1,j2⟩:=i2 h2
        have e:Lib.bitLenAux f (x / 2)=Lib.bitLenAux f (x / 2)-1+1:=by omega
        rw [e,Nat.pow_succ];omega

theorem bitLen_spec (x:Nat) (h:x<18446744073709551616):x<2 ^ Lib.bitLen x/\(x≠0->1<=Lib.bitLen x/\2 ^ (Lib.bitLen x-1)<=x)/\Lib.bitLen x<=64:=bitLenAux_spec 64 x h

end Go.Proofs.YthhkcfpljgdnhaaGreat
