/- Package taylor: slices of models, as right wants them. -/
import Derived.Test.YthhkcfpljgdnhaaGreatTayM
namespace Go.Proofs.YthhkcfpljgdnhaaGreat
open Go.RowKit Mnc
theorem list22 {a : List (Int × Int)} (h : a.length = 22) : ∃ x0 x1 x2 x3 x4 x5 x6 x7 x8 x9 x10 x11 x12 x13 x14 x15 x16 x17 x18 x19 x20 x21, a = [x0, x1, x2, x3, x4, x5, x6, x7, x8, x9, x10, x11, x12, x13, x14, x15, x16, x17, x18, x19, x20, x21] := by
 match a, h with
 | [x0, x1, x2, x3, x4, x5, x6, x7, x8, x9, x10, x11, x12, x13, x14, x15, x16, x17, x18, x19, x20, x21], _ => exact ⟨x0, x1, x2, x3, x4, x5, x6, x7, x8, x9, x10, x11, x12, x13, x14, x15, x16, x17, x18, x19, x20, x21, rfl⟩
set_option maxRecDepth 100000 in
theorem bs_one {a : List (Int × Int)} (h : a.length = 22) (W : World) : (Instr.buildSlice 86 1 #[(0, mval a)]).run Tryz.prog W = .ok (.slice (some ⟨W.heap.size, 0, none⟩) 1 1) (W.alloc (cobj 34 a)) := by
 obtain ⟨x0, x1, x2, x3, x4, x5, x6, x7, x8, x9, x10, x11, x12, x13, x14, x15, x16, x17, x18, x19, x20, x21, rfl⟩ := list22 h
 kernel_rfl
set_option maxRecDepth 100000 in
theorem bs_both {a c : List (Int × Int)} (h : a.length = 22) (k : c.length = 22) (W : World) : (Instr.buildSlice 86 2 #[(0, mval a), (1, mval c)]).run Tryz.prog W = .ok (.slice (some ⟨W.heap.size, 0, none⟩) 2 2) (W.alloc (cobj 34 (a ++ c))) := by
 obtain ⟨x0, x1, x2, x3, x4, x5, x6, x7, x8, x9, x10, x11, x12, x13, x14, x15, x16, x17, x18, x19, x20, x21, rfl⟩ := list22 h
 obtain ⟨y0, y1, y2, y3, y4, y5, y6, y7, y8, y9, y10, y11, y12, y13, y14, y15, y16, y17, y18, y19, y20, y21, rfl⟩ := list22 k
 kernel_rfl
end Go.Proofs.YthhkcfpljgdnhaaGreat
