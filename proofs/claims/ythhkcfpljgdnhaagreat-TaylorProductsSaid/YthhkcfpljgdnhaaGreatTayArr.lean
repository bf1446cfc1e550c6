/- Arrays of models by value: how they are built and looked at. Printed by wip/genAr.py. -/
import Derived.Test.YthhkcfpljgdnhaaGreatTayN
import Derived.Test.YthhkcfpljgdnhaaGreatTayK
namespace Go.Proofs.YthhkcfpljgdnhaaGreat
open Go.RowKit Mnc
section
variable {P : Program} {Pn : List PanicEntry → World → Prop} {K : Value → World → Prop} {s : Nat → Value} {w : World} {o : Oper} {v a b : Value} {t : TypeId} {x y : Operand}
theorem rs_bld {ps : Array (Nat × Operand)} {vs : Array (Nat × Value)} (ho : o.op = .build t ps) (hp : ps.map (fun (i, x) => (i, evS s x)) = vs) (h : (Instr.build t vs).run P w = .ok v w) (hK : K v w) : RunSP P Pn K ((execOp (evS s) o).run P w) := by
 unfold execOp; rw [ho]; subst hp
 simp only [Sem.run_bind, h, Result.andThen, Sem.run_pure]
 exact hK
theorem rs_idx (ho : o.op = .index t x y) (hx : evS s x = a) (hy : evS s y = b) (h : (Instr.index t a b).run P w = .ok v w) (hK : K v w) : RunSP P Pn K ((execOp (evS s) o).run P w) := by
 unfold execOp; rw [ho]; subst hx; subst hy
 simp only [Sem.run_bind, h, Result.andThen, Sem.run_pure]
 exact hK
end
set_option maxRecDepth 1000000 in
theorem bd_m2 {a : List (Int × Int)} {b : List (Int × Int)} (ha : a.length = 22) (hb : b.length = 22) (W : World) : (Instr.build 35 #[(0, mval a), (1, mval b)]).run Tryz.prog W = .ok (mval (a ++ b)) W := by
 obtain ⟨a0, a1, a2, a3, a4, a5, a6, a7, a8, a9, a10, a11, a12, a13, a14, a15, a16, a17, a18, a19, a20, a21, rfl⟩ := list22 ha
 obtain ⟨b0, b1, b2, b3, b4, b5, b6, b7, b8, b9, b10, b11, b12, b13, b14, b15, b16, b17, b18, b19, b20, b21, rfl⟩ := list22 hb
 kernel_rfl
set_option maxRecDepth 1000000 in
theorem bd_mp {a : List (Int × Int)} {b : List (Int × Int)} {c : List (Int × Int)} {d : List (Int × Int)} {e : List (Int × Int)} {f : List (Int × Int)} {g : List (Int × Int)} {h : List (Int × Int)} (ha : a.length = 22) (hb : b.length = 22) (hc : c.length = 22) (hd : d.length = 22) (he : e.length = 22) (hf : f.length = 22) (hg : g.length = 22) (hh : h.length = 22) (W : World) : (Instr.build 36 #[(0, mval (a ++ b)), (1, mval (c ++ d)), (2, mval (e ++ f)), (3, mval (g ++ h))]).run Tryz.prog W = .ok (mval (a ++ b ++ c ++ d ++ e ++ f ++ g ++ h)) W := by
 obtain ⟨a0, a1, a2, a3, a4, a5, a6, a7, a8, a9, a10, a11, a12, a13, a14, a15, a16, a17, a18, a19, a20, a21, rfl⟩ := list22 ha
 obtain ⟨b0, b1, b2, b3, b4, b5, b6, b7, b8, b9, b10, b11, b12, b13, b14, b15, b16, b17, b18, b19, b20, b21, rfl⟩ := list22 hb
 obtain ⟨c0, c1, c2, c3, c4, c5, c6, c7, c8, c9, c10, c11, c12, c13, c14, c15, c16, c17, c18, c19, c20, c21, rfl⟩ := list22 hc
 obtain ⟨d0, d1, d2, d3, d4, d5, d6, d7, d8, d9, d10, d11, d12, d13, d14, d15, d16, d17, d18, d19, d20, d21, rfl⟩ := list22 hd
 obtain ⟨e0, e1, e2, e3, e4, e5, e6, e7, e8, e9, e10, e11, e12, e13, e14, e15, e16, e17, e18, e19, e20, e21, rfl⟩ := list22 he
 obtain ⟨f0, f1, f2, f3, f4, f5, f6, f7, f8, f9, f10, f11, f12, f13, f14, f15, f16, f17, f18, f19, f20, f21, rfl⟩ := list22 hf
 obtain ⟨g0, g1, g2, g3, g4, g5, g6, g7, g8, g9, g10, g11, g12, g13, g14, g15, g16, g17, g18, g19, g20, g21, rfl⟩ := list22 hg
 obtain ⟨h0, h1, h2, h3, h4, h5, h6, h7, h8, h9, h10, h11, h12, h13, h14, h15, h16, h17, h18, h19, h20, h21, rfl⟩ := list22 hh
 kernel_rfl
set_option maxRecDepth 1000000 in
theorem ix_mp0 {a : List (Int × Int)} {b : List (Int × Int)} {c : List (Int × Int)} {d : List (Int × Int)} {e : List (Int × Int)} {f : List (Int × Int)} {g : List (Int × Int)} {h : List (Int × Int)} (ha : a.length = 22) (hb : b.length = 22) (hc : c.length = 22) (hd : d.length = 22) (he : e.length = 22) (hf : f.length = 22) (hg : g.length = 22) (hh : h.length = 22) (W : World) : (Instr.index 36 (mval (a ++ b ++ c ++ d ++ e ++ f ++ g ++ h)) (.int .i64 0)).run Tryz.prog W = .ok (mval (a ++ b)) W := by
 obtain ⟨a0, a1, a2, a3, a4, a5, a6, a7, a8, a9, a10, a11, a12, a13, a14, a15, a16, a17, a18, a19, a20, a21, rfl⟩ := list22 ha
 obtain ⟨b0, b1, b2, b3, b4, b5, b6, b7, b8, b9, b10, b11, b12, b13, b14, b15, b16, b17, b18, b19, b20, b21, rfl⟩ := list22 hb
 obtain ⟨c0, c1, c2, c3, c4, c5, c6, c7, c8, c9, c10, c11, c12, c13, c14, c15, c16, c17, c18, c19, c20, c21, rfl⟩ := list22 hc
 obtain ⟨d0, d1, d2, d3, d4, d5, d6, d7, d8, d9, d10, d11, d12, d13, d14, d15, d16, d17, d18, d19, d20, d21, rfl⟩ := list22 hd
 obtain ⟨e0, e1, e2, e3, e4, e5, e6, e7, e8, e9, e10, e11, e12, e13, e14, e15, e16, e17, e18, e19, e20, e21, rfl⟩ := list22 he
 obtain ⟨f0, f1, f2, f3, f4, f5, f6, f7, f8, f9, f10, f11, f12, f13, f14, f15, f16, f17, f18, f19, f20, f21, rfl⟩ := list22 hf
 obtain ⟨g0, g1, g2, g3, g4, g5, g6, g7, g8, g9, g10, g11, g12, g13, g14, g15, g16, g17, g18, g19, g20, g21, rfl⟩ := list22 hg
 obtain ⟨h0, h1, h2, h3, h4, h5, h6, h7, h8, h9, h10, h11, h12, h13, h14, h15, h16, h17, h18, h19, h20, h21, rfl⟩ := list22 hh
 kernel_rfl
set_option maxRecDepth 1000000 in
theorem ix_mp1 {a : List (Int × Int)} {b : List (Int × Int)} {c : List (Int × Int)} {d : List (Int × Int)} {e : List (Int × Int)} {f : List (Int × Int)} {g : List (Int × Int)} {h : List (Int × Int)} (ha : a.length = 22) (hb : b.length = 22) (hc : c.length = 22) (hd : d.length = 22) (he : e.length = 22) (hf : f.length = 22) (hg : g.length = 22) (hh : h.length = 22) (W : World) : (Instr.index 36 (mval (a ++ b ++ c ++ d ++ e ++ f ++ g ++ h)) (.int .i64 1)).run Tryz.prog W = .ok (mval (c ++ d)) W := by
 obtain ⟨a0, a1, a2, a3, a4, a5, a6, a7, a8, a9, a10, a11, a12, a13, a14, a15, a16, a17, a18, a19, a20, a21, rfl⟩ := list22 ha
 obtain ⟨b0, b1, b2, b3, b4, b5, b6, b7, b8, b9, b10, b11, b12, b13, b14, b15, b16, b17, b18, b19, b20, b21, rfl⟩ := list22 hb
 obtain ⟨c0, c1, c2, c3, c4, c5, c6, c7, c8, c9, c10, c11, c12, c13, c14, c15, c16, c17, c18, c19, c20, c21, rfl⟩ := list22 hc
 obtain ⟨d0, d1, d2, d3, d4, d5, d6, d7, d8, d9, d10, d11, d12, d13, d14, d15, d16, d17, d18, d19, d20, d21, rfl⟩ := list22 hd
 obtain ⟨e0, e1, e2, e3, e4, e5, e6, e7, e8, e9, e10, e11, e12, e13, e14, e15, e16, e17, e18, e19, e20, e21, rfl⟩ := list22 he
 obtain ⟨f0, f1, f2, f3, f4, f5, f6, f7, f8, f9, f10, f11, f12, f13, f14, f15, f16, f17, f18, f19, f20, f21, rfl⟩ := list22 hf
 obtain ⟨g0, g1, g2, g3, g4, g5, g6, g7, g8, g9, g10, g11, g12, g13, g14, g15, g16, g17, g18, g19, g20, g21, rfl⟩ := list22 hg
 obtain ⟨h0, h1, h2, h3, h4, h5, h6, h7, h8, h9, h10, h11, h12, h13, h14, h15, h16, h17, h18, h19, h20, h21, rfl⟩ := list22 hh
 kernel_rfl
set_option maxRecDepth 1000000 in
theorem ix_mp2 {a : List (Int × Int)} {b : List (Int × Int)} {c : List (Int × Int)} {d : List (Int × Int)} {e : List (Int × Int)} {f : List (Int × Int)} {g : List (Int × Int)} {h : List (Int × Int)} (ha : a.length = 22) (hb : b.length = 22) (hc : c.length = 22) (hd : d.length = 22) (he : e.length = 22) (hf : f.length = 22) (hg : g.length = 22) (hh : h.length = 22) (W : World) : (Instr.index 36 (mval (a ++ b ++ c ++ d ++ e ++ f ++ g ++ h)) (.int .i64 2)).run Tryz.prog W = .ok (mval (e ++ f)) W := by
 obtain ⟨a0, a1, a2, a3, a4, a5, a6, a7, a8, a9, a10, a11, a12, a13, a14, a15, a16, a17, a18, a19, a20, a21, rfl⟩ := list22 ha
 obtain ⟨b0, b1, b2, b3, b4, b5, b6, b7, b8, b9, b10, b11, b12, b13, b14, b15, b16, b17, b18, b19, b20, b21, rfl⟩ := list22 hb
 obtain ⟨c0, c1, c2, c3, c4, c5, c6, c7, c8, c9, c10, c11, c12, c13, c14, c15, c16, c17, c18, c19, c20, c21, rfl⟩ := list22 hc
 obtain ⟨d0, d1, d2, d3, d4, d5, d6, d7, d8, d9, d10, d11, d12, d13, d14, d15, d16, d17, d18, d19, d20, d21, rfl⟩ := list22 hd
 obtain ⟨e0, e1, e2, e3, e4, e5, e6, e7, e8, e9, e10, e11, e12, e13, e14, e15, e16, e17, e18, e19, e20, e21, rfl⟩ := list22 he
 obtain ⟨f0, f1, f2, f3, f4, f5, f6, f7, f8, f9, f10, f11, f12, f13, f14, f15, f16, f17, f18, f19, f20, f21, rfl⟩ := list22 hf
 obtain ⟨g0, g1, g2, g3, g4, g5, g6, g7, g8, g9, g10, g11, g12, g13, g14, g15, g16, g17, g18, g19, g20, g21, rfl⟩ := list22 hg
 obtain ⟨h0, h1, h2, h3, h4, h5, h6, h7, h8, h9, h10, h11, h12, h13, h14, h15, h16, h17, h18, h19, h20, h21, rfl⟩ := list22 hh
 kernel_rfl
set_option maxRecDepth 1000000 in
theorem ix_mp3 {a : List (Int × Int)} {b : List (Int × Int)} {c : List (Int × Int)} {d : List (Int × Int)} {e : List (Int × Int)} {f : List (Int × Int)} {g : List (Int × Int)} {h : List (Int × Int)} (ha : a.length = 22) (hb : b.length = 22) (hc : c.length = 22) (hd : d.length = 22) (he : e.length = 22) (hf : f.length = 22) (hg : g.length = 22) (hh : h.length = 22) (W : World) : (Instr.index 36 (mval (a ++ b ++ c ++ d ++ e ++ f ++ g ++ h)) (.int .i64 3)).run Tryz.prog W = .ok (mval (g ++ h)) W := by
 obtain ⟨a0, a1, a2, a3, a4, a5, a6, a7, a8, a9, a10, a11, a12, a13, a14, a15, a16, a17, a18, a19, a20, a21, rfl⟩ := list22 ha
 obtain ⟨b0, b1, b2, b3, b4, b5, b6, b7, b8, b9, b10, b11, b12, b13, b14, b15, b16, b17, b18, b19, b20, b21, rfl⟩ := list22 hb
 obtain ⟨c0, c1, c2, c3, c4, c5, c6, c7, c8, c9, c10, c11, c12, c13, c14, c15, c16, c17, c18, c19, c20, c21, rfl⟩ := list22 hc
 obtain ⟨d0, d1, d2, d3, d4, d5, d6, d7, d8, d9, d10, d11, d12, d13, d14, d15, d16, d17, d18, d19, d20, d21, rfl⟩ := list22 hd
 obtain ⟨e0, e1, e2, e3, e4, e5, e6, e7, e8, e9, e10, e11, e12, e13, e14, e15, e16, e17, e18, e19, e20, e21, rfl⟩ := list22 he
 obtain ⟨f0, f1, f2, f3, f4, f5, f6, f7, f8, f9, f10, f11, f12, f13, f14, f15, f16, f17, f18, f19, f20, f21, rfl⟩ := list22 hf
 obtain ⟨g0, g1, g2, g3, g4, g5, g6, g7, g8, g9, g10, g11, g12, g13, g14, g15, g16, g17, g18, g19, g20, g21, rfl⟩ := list22 hg
 obtain ⟨h0, h1, h2, h3, h4, h5, h6, h7, h8, h9, h10, h11, h12, h13, h14, h15, h16, h17, h18, h19, h20, h21, rfl⟩ := list22 hh
 kernel_rfl
end Go.Proofs.YthhkcfpljgdnhaaGreat
