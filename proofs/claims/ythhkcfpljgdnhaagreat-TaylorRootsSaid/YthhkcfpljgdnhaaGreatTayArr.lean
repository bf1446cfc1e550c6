/- Arrays of models by value: how they are built and looked at. Printed by wip/genAr.py. -/
import Derived.Test.YthhkcfpljgdnhaaGreatTayM
import Derived.Test.YthhkcfpljgdnhaaGreatTayL
namespace Go.Proofs.YthhkcfpljgdnhaaGreat
open Go.RowKit Mnc
section
variable {P:Program} {Pn:List PanicEntry->World->Prop} {K:Value->World->Prop} {s:Nat->Value} {w:World} {o:Oper} {v a b:Value} {t:TypeId} {x y:Operand}
theorem rs_bld {ps:Array (Nat×Operand)} {vs:Array (Nat×Value)} (ho:o.op=.build t ps) (hp:ps.map (fun (i,x)=>(i,evS s x))=vs) (h:(Instr.build t vs).run P w=.ok v w) (hK:K v w):RunSP P Pn K ((execOp (evS s) o).run P w):=by
 unfold execOp;rw [ho];subst hp
 simp only [Sem.run_bind,h,Result.andThen,Sem.run_pure]
 exact hK
theorem rs_idx (ho:o.op=.index t x y) (hx:evS s x=a) (hy:evS s y=b) (h:(Instr.index t a b).run P w=.ok v w) (hK:K v w):RunSP P Pn K ((execOp (evS s) o).run P w):=by
 unfold execOp;rw [ho];subst hx;subst hy
 simp only [Sem.run_bind,h,Result.andThen,Sem.run_pure]
 exact hK
end
set_option maxRecDepth 1000000 in
theorem bd_m4 {a:List (Int×Int)} {b:List (Int×Int)} {c:List (Int×Int)} {d:List (Int×Int)} (ha:a.length=22) (hb:b.length=22) (hc:c.length=22) (hd:d.length=22) (W:World):(Instr.build 47 #[(0,mval a),(1,mval b),(2,mval c),(3,mval d)]).run Tryz.prog W=.ok (mval (a++b++c++d)) W:=by
 obtain ⟨a0,a1,a2,a3,a4,a5,a6,a7,a8,a9,a10,a11,a12,a13,a14,a15,a16,a17,a18,a19,a20,a21,rfl⟩:=list22 ha
 obtain ⟨b0,b1,b2,b3,b4,b5,b6,b7,b8,b9,b10,b11,b12,b13,b14,b15,b16,b17,b18,b19,b20,b21,rfl⟩:=list22 hb
 obtain ⟨c0,c1,c2,c3,c4,c5,c6,c7,c8,c9,c10,c11,c12,c13,c14,c15,c16,c17,c18,c19,c20,c21,rfl⟩:=list22 hc
 obtain ⟨d0,d1,d2,d3,d4,d5,d6,d7,d8,d9,d10,d11,d12,d13,d14,d15,d16,d17,d18,d19,d20,d21,rfl⟩:=list22 hd
 kernel_rfl
set_option maxRecDepth 1000000 in
theorem ix_m40 {a:List (Int×Int)} {b:List (Int×Int)} {c:List (Int×Int)} {d:List (Int×Int)} (ha:a.length=22) (hb:b.length=22) (hc:c.length=22) (hd:d.length=22) (W:World):(Instr.index 47 (mval (a++b++c++d)) (.int .i64 0)).run Tryz.prog W=.ok (mval a) W:=by
 obtain ⟨a0,a1,a2,a3,a4,a5,a6,a7,a8,a9,a10,a11,a12,a13,a14,a15,a16,a17,a18,a19,a20,a21,rfl⟩:=list22 ha
 obtain ⟨b0,b1,b2,b3,b4,b5,b6,b7,b8,b9,b10,b11,b12,b13,b14,b15,b16,b17,b18,b19,b20,b21,rfl⟩:=list22 hb
 obtain ⟨c0,c1,c2,c3,c4,c5,c6,c7,c8,c9,c10,c11,c12,c13,c14,c15,c16,c17,c18,c19,c20,c21,rfl⟩:=list22 hc
 obtain ⟨d0,d1,d2,d3,d4,d5,d6,d7,d8,d9,d10,d11,d12,d13,d14,d15,d16,d17,d18,d19,d20,d21,rfl⟩:=list22 hd
 kernel_rfl
set_option maxRecDepth 1000000 in
theorem ix_m41 {a:List (Int×Int)} {b:List (Int×Int)} {c:List (Int×Int)} {d:List (Int×Int)} (ha:a.length=22) (hb:b.length=22) (hc:c.length=22) (hd:d.length=22) (W:World):(Instr.index 47 (mval (a++b++c++d)) (.int .i64 1)).run Tryz.prog W=.ok (mval b) W:=by
 obtain ⟨a0,a1,a2,a3,a4,a5,a6,a7,a8,a9,a10,a11,a12,a13,a14,a15,a16,a17,a18,a19,a20,a21,rfl⟩:=list22 ha
 obtain ⟨b0,b1,b2,b3,b4,b5,b6,b7,b8,b9,b10,b11,b12,b13,b14,b15,b16,b17,b18,b19,b20,b21,rfl⟩:=list22 hb
 obtain ⟨c0,c1,c2,c3,c4,c5,c6,c7,c8,c9,c10,c11,c12,c13,c14,c15,c16,c17,c18,c19,c20,c21,rfl⟩:=list22 hc
 obtain ⟨d0,d1,d2,d3,d4,d5,d6,d7,d8,d9,d10,d11,d12,d13,d14,d15,d16,d17,d18,d19,d20,d21,rfl⟩:=list22 hd
 kernel_rfl
set_option maxRecDepth 1000000 in
theorem ix_m42 {a:List (Int×Int)} {b:List (Int×Int)} {c:List (Int×Int)} {d:List (Int×Int)} (ha:a.length=22) (hb:b.length=22) (hc:c.length=22) (hd:d.length=22) (W:World):(Instr.index 47 (mval (a++b++c++d)) (.int .i64 2)).run Tryz.prog W=.ok (mval c) W:=by
 obtain ⟨a0,a1,a2,a3,a4,a5,a6,a7,a8,a9,a10,a11,a12,a13,a14,a15,a16,a17,a18,a19,a20,a21,rfl⟩:=list22 ha
 obtain ⟨b0,b1,b2,b3,b4,b5,b6,b7,b8,b9,b10,b11,b12,b13,b14,b15,b16,b17,b18,b19,b20,b21,rfl⟩:=list22 hb
 obtain ⟨c0,c1,c2,c3,c4,c5,c6,c7,c8,c9,c10,c11,c12,c13,c14,c15,c16,c17,c18,c19,c20,c21,rfl⟩:=list22 hc
 obtain ⟨d0,d1,d2,d3,d4,d5,d6,d7,d8,d9,d10,d11,d12,d13,d14,d15,d16,d17,d18,d19,d20,d21,rfl⟩:=list22 hd
 kernel_rfl
set_option maxRecDepth 1000000 in
theorem ix_m43 {a:List (Int×Int)} {b:List (Int×Int)} {c:List (Int×Int)} {d:List (Int×Int)} (ha:a.length=22) (hb:b.length=22) (hc:c.length=22) (hd:d.length=22) (W:World):(Instr.index 47 (mval (a++b++c++d)) (.int .i64 3)).run Tryz.prog W=.ok (mval d) W:=by
 obtain ⟨a0,a1,a2,a3,a4,a5,a6,a7,a8,a9,a10,a11,a12,a13,a14,a15,a16,a17,a18,a19,a20,a21,rfl⟩:=list22 ha
 obtain ⟨b0,b1,b2,b3,b4,b5,b6,b7,b8,b9,b10,b11,b12,b13,b14,b15,b16,b17,b18,b19,b20,b21,rfl⟩:=list22 hb
 obtain ⟨c0,c1,c2,c3,c4,c5,c6,c7,c8,c9,c10,c11,c12,c13,c14,c15,c16,c17,c18,c19,c20,c21,rfl⟩:=list22 hc
 obtain ⟨d0,d1,d2,d3,d4,d5,d6,d7,d8,d9,d10,d11,d12,d13,d14,d15,d16,d17,d18,d19,d20,d21,rfl⟩:=list22 hd
 kernel_rfl
end Go.Proofs.YthhkcfpljgdnhaaGreat
