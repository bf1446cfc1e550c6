/- The drafts of law 21: Draft.Model, Draft.Near, Bend.Of. Printed by wip/genDr.py. -/
import Derived.Test.YthhkcfpljgdnhaaGreatTayL
namespace Mnc
/-- A term: its place, its middle, its width. -/
abbrev Tm := Int × Int × Int
def Tm.wf (d : Tm) : Prop := (0 ≤ d.1 ∧ d.1 ≤ 255) ∧ (-32768 ≤ d.2.1 ∧ d.2.1 ≤ 32767) ∧ (0 ≤ d.2.2 ∧ d.2.2 ≤ 255)
def dTerm (m : List (Int × Int)) (d : Tm) : List (Int × Int) := m.set (d.1 % 21).toNat (d.2.1 * 16384 - d.2.2, d.2.1 * 16384 + d.2.2)
/-- The model of a draft. -/
def dModel (c : Int) (ts : List Tm) (r : Int) : List (Int × Int) := ((ts.take 8).foldl dTerm (zeroM.set 0 (c * 65536, c * 65536))).set 21 (-r, r)
theorem foldl_dTerm_len : ∀ (ts : List Tm) (m : List (Int × Int)), (ts.foldl dTerm m).length = m.length
 | [], _ => rfl
 | d :: ts, m => by rw [List.foldl_cons, foldl_dTerm_len ts]; simp [dTerm]
theorem dModel_len (c : Int) (ts : List Tm) (r : Int) : (dModel c ts r).length = 22 := by
 unfold dModel
 rw [List.length_set, foldl_dTerm_len, List.length_set]
 rfl
/-- One place of Near: both ends divided by 8. -/
def nearLo (m : List (Int × Int)) (p : Nat) : List (Int × Int) := m.set p (Go.IntKind.i64.wrap ((tAt m p).1.tdiv 8), (tAt m p).2)
def nearHi (m : List (Int × Int)) (p : Nat) : List (Int × Int) := m.set p ((tAt m p).1, Go.IntKind.i64.wrap ((tAt m p).2.tdiv 8))
def nearFrom : Nat → Nat → List (Int × Int) → List (Int × Int)
 | 0, _, m => m
 | n + 1, p, m => nearFrom n (p + 1) (nearHi (nearLo m p) p)
theorem nearFrom_len : ∀ (n p : Nat) (m : List (Int × Int)), (nearFrom n p m).length = m.length
 | 0, _, _ => rfl
 | n + 1, p, m => by rw [nearFrom, nearFrom_len n]; simp [nearHi, nearLo]
def dNear (c : Int) (ts : List Tm) (r : Int) : List (Int × Int) := nearFrom 20 1 ((dModel c ts r).set 0 (4294967296 + (c + 32768) * 65536, 4294967296 + (c + 32768) * 65536))
theorem dNear_len (c : Int) (ts : List Tm) (r : Int) : (dNear c ts r).length = 22 := by
 unfold dNear
 rw [nearFrom_len, List.length_set, dModel_len]
/-- A changed model. -/
def bendOf (p : Int) (s : Int × Int) (a : List (Int × Int)) : List (Int × Int) := a.set (p % 22).toNat s
theorem bendOf_len (p : Int) (s : Int × Int) (a : List (Int × Int)) : (bendOf p s a).length = a.length := by simp [bendOf]
end Mnc
namespace Go.Proofs.YthhkcfpljgdnhaaGreat
open Go.RowKit Mnc
attribute [local go_sem] RunSP_value RunSP_skip RunSP_enter evS_tmp evS_const evS_global evS_func
section
variable {W : World} {B p : Nat} {t : TypeId} {a : List (Int × Int)}
theorem fl_span0 (B p : Nat) (W : World) : (Instr.fieldAt 31 (.pointer (some ⟨B, p * 2, none⟩)) 0).run Tryz.prog W = .ok (.pointer (some ⟨B, p * 2, none⟩)) W := by
 simp [go_sem]
theorem fl_span1 (B p : Nat) (W : World) : (Instr.fieldAt 31 (.pointer (some ⟨B, p * 2, none⟩)) 1).run Tryz.prog W = .ok (.pointer (some ⟨B, p * 2 + 1, none⟩)) W := by
 simp [go_sem]
theorem ix_model8 {W : World} (B k : Nat) (hk : k < 21) : (Instr.indexAt 32 (.pointer (some ⟨B, 0, none⟩)) (.int .u8 (k : Int))).run Tryz.prog W = .ok (.pointer (some ⟨B, k * 2, none⟩)) W := by
 rw [run_indexAt_array (h := by kernel_rfl)]
 have hn : Tryz.prog.arrayLen 32 = 21 := by kernel_rfl
 have hs : (sizeOf (Tryz.prog.elem 32)).run Tryz.prog W = .ok 2 W := by kernel_rfl
 rw [hn, if_pos (by omega), hs]
 simp only [Result.andThen, Int.toNat_natCast, Addr.add_mid, Nat.zero_add]
theorem ld_span0 (h : W.heap[B]? = some (cobj t a)) (hp : p < a.length) : (Instr.loadAt 3 (.pointer (some ⟨B, p * 2, none⟩))).run Tryz.prog W = .ok (.int .i64 (tAt a p).1) W := by
 have c := (cobj_cell h (p * 2)).trans (mc_get a p hp).1
 simp [go_sem, c]
theorem ld_span1 (h : W.heap[B]? = some (cobj t a)) (hp : p < a.length) : (Instr.loadAt 3 (.pointer (some ⟨B, p * 2 + 1, none⟩))).run Tryz.prog W = .ok (.int .i64 (tAt a p).2) W := by
 have c := (cobj_cell h (p * 2 + 1)).trans (mc_get a p hp).2
 simp [go_sem, c]
theorem mc_same (a : List (Int × Int)) (p : Nat) (hp : p < a.length) : (mc a).set (p * 2 + 1) (.int .i64 (tAt a p).2) = mc a ∧ (mc a).set (p * 2) (.int .i64 (tAt a p).1) = mc a := by
 obtain ⟨h1, h2⟩ := mc_get a p hp
 constructor
 ·apply List.ext_getElem?
  intro i
  by_cases hi : p * 2 + 1 = i
  ·subst hi
   rw [h2, List.getElem?_set_self (List.getElem?_eq_some_iff.1 h2).1]
  ·rw [List.getElem?_set_ne hi]
 ·apply List.ext_getElem?
  intro i
  by_cases hi : p * 2 = i
  ·subst hi
   rw [h1, List.getElem?_set_self (List.getElem?_eq_some_iff.1 h1).1]
  ·rw [List.getElem?_set_ne hi]
theorem st_span0 (h : W.heap[B]? = some (cobj t a)) (hp : p < a.length) (x : Int) : (Instr.storeAt 3 (.pointer (some ⟨B, p * 2, none⟩)) (.int .i64 x)).run Tryz.prog W = .ok () (W.putObj B (cobj t (a.set p (x, (tAt a p).2)))) := by
 have c := (cobj_cell h (p * 2)).trans (mc_get a p hp).1
 have f : W.frozen? ⟨B, p * 2, none⟩ = false := by simp [World.frozen?, h, cobj]
 have hs : (Instr.storeAt 3 (.pointer (some ⟨B, p * 2, none⟩)) (.int .i64 x)).run Tryz.prog W = .ok () (W.setCell ⟨B, p * 2, none⟩ (.int .i64 x)) := by
  simp [go_sem, c, f]
 have e : (mc a).set (p * 2) (.int .i64 x) = mc (a.set p (x, (tAt a p).2)) := by
  rw [mc_set a (x, (tAt a p).2) p hp, List.set_comm _ _ (by omega), (mc_same a p hp).1]
 unfold cobj at h
 rw [hs, setCell_put h]
 unfold cobj
 rw [← e]
 simp
theorem st_span1 (h : W.heap[B]? = some (cobj t a)) (hp : p < a.length) (x : Int) : (Instr.storeAt 3 (.pointer (some ⟨B, p * 2 + 1, none⟩)) (.int .i64 x)).run Tryz.prog W = .ok () (W.putObj B (cobj t (a.set p ((tAt a p).1, x)))) := by
 have c := (cobj_cell h (p * 2 + 1)).trans (mc_get a p hp).2
 have f : W.frozen? ⟨B, p * 2 + 1, none⟩ = false := by simp [World.frozen?, h, cobj]
 have hs : (Instr.storeAt 3 (.pointer (some ⟨B, p * 2 + 1, none⟩)) (.int .i64 x)).run Tryz.prog W = .ok () (W.setCell ⟨B, p * 2 + 1, none⟩ (.int .i64 x)) := by
  simp [go_sem, c, f]
 have e : (mc a).set (p * 2 + 1) (.int .i64 x) = mc (a.set p ((tAt a p).1, x)) := by
  rw [mc_set a ((tAt a p).1, x) p hp, (mc_same a p hp).2]
 unfold cobj at h
 rw [hs, setCell_put h]
 unfold cobj
 rw [← e]
 simp
end
/-- A slice of terms that reads as a list. -/
structure TmSl (W : World) (ao : Option Addr) (cap : Nat) (l : List Tm) : Prop where
 le : l.length ≤ cap
 cmax : cap ≤ 9223372036854775807
 isNil : ao = none → l.length = 0
 isSome : ∀ a, ao = some a → a = ⟨a.block, a.off, none⟩
 wf : ∀ d ∈ l, d.wf
 cells : ∀ a, ao = some a → ∀ (i : Nat) (d : Tm), l[i]? = some d → W.cell? ⟨a.block, a.off + i * 3, none⟩ = some (.int .u8 d.1) ∧ W.cell? ⟨a.block, a.off + i * 3 + 1, none⟩ = some (.int .i16 d.2.1) ∧ W.cell? ⟨a.block, a.off + i * 3 + 2, none⟩ = some (.int .u8 d.2.2)
theorem TmSl.on {W W' : World} {ao : Option Addr} {cap : Nat} {l : List Tm} (h : TmSl W ao cap l) (k : Below W.heap.size W W') : TmSl W' ao cap l :=
 ⟨h.le, h.cmax, h.isNil, h.isSome, h.wf, fun a ha i d hd => by
  obtain ⟨h1, h2, h3⟩ := h.cells a ha i d hd
  have go : ∀ (o : Nat) (v : Value), W.cell? ⟨a.block, o, none⟩ = some v → W'.cell? ⟨a.block, o, none⟩ = some v := fun o v hc => by
   have hl : a.block < W.heap.size := by
    apply Nat.lt_of_not_le
    intro hn
    rw [World.cell?, Array.getElem?_eq_none hn] at hc
    cases hc
   rw [k.cell (p := ⟨a.block, o, none⟩) hl]
   exact hc
  exact ⟨go _ _ h1, go _ _ h2, go _ _ h3⟩⟩
theorem wr_i64 {x : Int} (h : -9000000000000000000 ≤ x ∧ x ≤ 9000000000000000000) : IntKind.i64.wrap x = x := by
 simp [IntKind.wrap, IntKind.bits, IntKind.signed]
 omega
theorem rf_point (n : Int) (w : World) : Calls Tryz.prog 37 #[.int .i64 n] w fun e w' => e = .returned (sval (n, n)) ∧ Below w.heap.size w w' := by
 go_enter Tryz.func37, Tryz.ntmps37
 go_wp2
 exact bodyPost_ret (v := sval (n, n)) (by simp [results, Tryz.results37, go_sem, sval]) rfl ⟨rfl, below_alloc (Below.refl _ _) _⟩
structure Dm2 (V : World) (c : Int) (r : Int) (ts : List Tm) (ao : Option Addr) (cap : Nat) (b : Nat) (g0 : Nat) (L : Nat → Bool) (s : Nat → Value) (w : World) : Prop where
 mu : Mut [g0] V w
 kt_a : L 7 = false → w.heap[g0]? = some (cobj 34 zeroM)
 kr_a : L 7 = true → w.heap[g0]? = some (cobj 34 (zeroM.set 0 (c * 65536, c * 65536)))
 e0 : L 0 = true → s 7 = .pointer (some ⟨b, 0, none⟩)
 e1 : L 1 = true → s 8 = .int .i16 c
 e2 : L 2 = true → s 9 = .int .i64 c
 e3 : L 3 = true → s 10 = .int .i64 (c * 65536)
 e4 : L 4 = true → s 11 = sval (c * 65536, c * 65536)
 e5 : L 5 = true → s 12 = .pointer (some ⟨g0, 0, none⟩)
 e6 : L 6 = true → s 13 = .pointer (some ⟨g0, 0 * 2, none⟩)
structure Dm8 (V : World) (c : Int) (r : Int) (ts : List Tm) (ao : Option Addr) (cap : Nat) (b : Nat) (g0 : Nat) (g : Nat) (x : Tm) (k : Nat) (kk : Nat) (M : List (Int × Int)) (L : Nat → Bool) (s : Nat → Value) (w : World) : Prop where
 mu : Mut [g0] V w
 kt_a : L 17 = false → w.heap[g0]? = some (cobj 34 M)
 kr_a : L 17 = true → w.heap[g0]? = some (cobj 34 (M.set kk (x.2.1 * 16384 - x.2.2, x.2.1 * 16384 + x.2.2)))
 e0 : L 0 = true → s 34 = .pointer (some ⟨g, 0, none⟩)
 e1 : L 1 = true → s 35 = .int .u8 x.1
 e2 : L 2 = true → s 36 = .int .i64 x.1
 e3 : L 3 = true → s 37 = .int .i64 ((kk : Nat) : Int)
 e4 : L 4 = true → s 38 = .int .i64 (x.2.1 * 16384)
 e5 : L 5 = true → s 39 = .pointer (some ⟨g, 2, none⟩)
 e6 : L 6 = true → s 40 = .int .u8 x.2.2
 e7 : L 7 = true → s 41 = .int .i64 x.2.2
 e8 : L 8 = true → s 42 = .int .i64 (x.2.1 * 16384 - x.2.2)
 e9 : L 9 = true → s 43 = .int .i64 (x.2.1 * 16384)
 e10 : L 10 = true → s 44 = .pointer (some ⟨g, 2, none⟩)
 e11 : L 11 = true → s 45 = .int .u8 x.2.2
 e12 : L 12 = true → s 46 = .int .i64 x.2.2
 e13 : L 13 = true → s 47 = .int .i64 (x.2.1 * 16384 + x.2.2)
 e14 : L 14 = true → s 48 = sval (x.2.1 * 16384 - x.2.2, x.2.1 * 16384 + x.2.2)
 e15 : L 15 = true → s 49 = .pointer (some ⟨g0, 0, none⟩)
 e16 : L 16 = true → s 50 = .pointer (some ⟨g0, kk * 2, none⟩)
structure Dm9 (V : World) (c : Int) (r : Int) (ts : List Tm) (ao : Option Addr) (cap : Nat) (b : Nat) (g0 : Nat) (M : List (Int × Int)) (L : Nat → Bool) (s : Nat → Value) (w : World) : Prop where
 mu : Mut [g0] V w
 kt_a : L 9 = false → w.heap[g0]? = some (cobj 34 M)
 kr_a : L 9 = true → w.heap[g0]? = some (cobj 34 (M.set 21 (-r, r)))
 e0 : L 0 = true → s 51 = .pointer (some ⟨b, 2, none⟩)
 e1 : L 1 = true → s 52 = .int .u16 r
 e2 : L 2 = true → s 53 = .int .i64 r
 e3 : L 3 = true → s 54 = .int .i64 (-r)
 e4 : L 4 = true → s 55 = .pointer (some ⟨b, 2, none⟩)
 e5 : L 5 = true → s 56 = .int .u16 r
 e6 : L 6 = true → s 57 = .int .i64 r
 e7 : L 7 = true → s 58 = sval (-r, r)
 e8 : L 8 = true → s 59 = .pointer (some ⟨g0, 21 * 2, none⟩)
structure Dm10 (V : World) (c : Int) (r : Int) (ts : List Tm) (ao : Option Addr) (cap : Nat) (b : Nat) (g0 : Nat) (M : List (Int × Int)) (L : Nat → Bool) (s : Nat → Value) (w : World) : Prop where
 mu : Mut [b + 1] V w
 kt_r : L 1 = false → w.heap[b + 1]? = some (cobj 34 zeroM)
 kr_r : L 1 = true → w.heap[b + 1]? = some (cobj 34 (M.set 21 (-r, r)))
 e0 : L 0 = true → s 60 = mval (M.set 21 (-r, r))
set_option maxRecDepth 100000 in
set_option maxHeartbeats 4000000 in
theorem dr_Model (c r : Int) (ts : List Tm) (ao : Option Addr) (cap : Nat) (hc : -32768 ≤ c ∧ c ≤ 32767) (hr : 0 ≤ r ∧ r ≤ 65535) (w : World) (ht : TmSl w ao cap ts) :
  Calls Tryz.prog 13 #[.agg #[.int .i16 c, .slice ao ts.length cap, .int .u16 r]] w fun e w' => e = .returned (mval (dModel c ts r)) ∧ Below w.heap.size w w' := by
 have HC := lh hc
 have HRR := lh hr
 have HT := lh ht
 clear hc hr ht
 go_enter Tryz.func13, Tryz.ntmps13
 refine wsk fun K0 HK0 => ?_
 go_wp2_with fail
 obtain ⟨b, hb⟩ : ∃ b, w.heap.size = b := ⟨_, rfl⟩
 refine HK0.out _ _ ?_
 refine wp_world (fun V => Mut [] w V ∧ V.heap[b]? = some (.cells #[.int .i16 c, .slice ao ts.length cap, .int .u16 r] 26 (0, 0)) ∧ V.heap[b + 1]? = some (cobj 34 zeroM)) ?_
  (by
   rw [← hb]
   exact ⟨(((Mut.refl _ _).alloc _).alloc _), heap_up _ (heap_at (.cells #[.int .i16 c, .slice ao ts.length cap, .int .u16 r] 26 (0, 0)) (by simp)), heap_at (cobj 34 zeroM) (by simp)⟩)
 rintro V ⟨hm, hHD, hHR⟩
 rw [hb]
 have HM := lh hm
 have HBW := lh hb
 have HLT := lh trivial
 have HD := lh hHD
 have HR := lh hHR
 clear hm hHD hHR hb HK0
 refine wsk fun K1 HK1 => ?_
 go_wp2_with fail
 refine HK1.out _ _ ?_
 obtain ⟨g0, hg⟩ : ∃ g, V.heap.size = g := ⟨_, rfl⟩
 refine wp_world (fun V2 => Mut [] w V2 ∧ b ≤ g0 ∧ V2.heap[b]? = some (.cells #[.int .i16 c, .slice ao ts.length cap, .int .u16 r] 26 (0, 0)) ∧ V2.heap[b + 1]? = some (cobj 34 zeroM) ∧ V2.heap[g0]? = some (cobj 34 zeroM)) ?_
  (by
   rw [← hg]
   exact ⟨HM.out.alloc _, by have := HM.out.size; have := HBW.out; omega, heap_up _ HD.out, heap_up _ HR.out, heap_at (cobj 34 zeroM) (by simp)⟩)
 replace HLT := lh (show b ≤ g0 ∧ b < g0 ∧ b + 1 < g0 from by
  have hlt := HLT.out
  have hbw := HM.out.size
  have hbw2 := HBW.out
  have := lt_of_block HD.out
  have := lt_of_block HR.out
  omega)
 rintro V2 ⟨hm, -, qHD, qHR, hnew⟩
 rw [hg]
 replace HM := lh hm
 replace HD := lh qHD
 replace HR := lh qHR
 have HA := lh hnew
 clear hm hnew hg qHD qHR HK1
 clear V
 rename World => V
 refine wsk fun K2 HK2 => ?_
 refine wp_cut_mergeP (nn :: nn :: nn :: nn :: nn :: nn :: nn :: some 7 :: some 8 :: some 9 :: some 10 :: some 11 :: some 12 :: some 13 :: n8 (n8 (n8 (n8 (n8 (nn :: nn :: nn :: nn :: nn :: nn :: nn :: [])))))) (fun _ w' => Mut [g0] V w' ∧ w'.heap[g0]? = some (cobj 34 (zeroM.set 0 (c * 65536, c * 65536)))) (fun _ _ => False) ?_ ?_ ?_
 ·intro Q2 hQ2 hP2
  refine wpG ?_
  refine wp_region_G (b := false) (Pn := (fun _ _ => False)) (Dm2 V c r ts ao cap b g0) (by kernel_rfl) (by kernel_rfl) ?_ ?_ ?_ ?_
  ·exact ⟨Mut.start _ false _, fun _ => HA.out, nB, nB, nB, nB, nB, nB, nB, nB⟩
  ·refine AllSP.cons ?_ (AllSP.cons ?_ (AllSP.cons ?_ (AllSP.cons ?_ (AllSP.cons ?_ (AllSP.cons ?_ (AllSP.cons ?_ (AllSP.cons ?_ AllSP.nil)))))))
   ·intro L s w2 h hk hd hn
    have s1 : s 1 = _ := hk 1 (by kernel_rfl)
    refine sP fun K hK => ?_
    go_simp
    exact hK _ _ { h with e0 := fun _ => rfl }
   ·intro L s w2 h hk hd hn
    have s7 := h.e0 hd.1
    have kq := (h.mu.same _ (lt_of_block HD.out) (notin1 (by have := HLT.out; omega))).trans HD.out
    have kc : w2.cell? ⟨b, 0, none⟩ = some (.int .i16 c) := by rw [cell_of_row w2 b 0 _ _ _ kq]; rfl
    refine sP fun K hK => ?_
    go_simp
    exact hK _ _ { h with e1 := fun _ => rfl }
   ·intro L s w2 h hk hd hn
    have s8 := h.e1 hd.1
    have e1 := wr_i64 (x := c) (by have := HC.out; omega)
    refine sP fun K hK => ?_
    go_simp
    exact hK _ _ { h with e2 := fun _ => rfl }
   ·intro L s w2 h hk hd hn
    have s9 := h.e2 hd.1
    have e1 := wr_i64 (x := c * 65536) (by have := HC.out; omega)
    refine sP fun K hK => ?_
    go_simp
    exact hK _ _ { h with e3 := fun _ => rfl }
   ·intro L s w2 h hk hd hn
    have s10 := h.e3 hd.1
    refine sP fun K hK => ?_
    go_simp
    refine (rf_point (c * 65536) _).mono ?_
    rintro e w3 ⟨rfl, hb⟩
    exact .inl ⟨_, rfl, hK _ _ { h with mu := h.mu.step hb, kt_a := fun a => bk hb (h.kt_a a), kr_a := fun a => bk hb (h.kr_a a), e4 := fun _ => rfl }⟩
   ·intro L s w2 h hk hd hn
    have s3 : s 3 = _ := hk 3 (by kernel_rfl)
    refine sP fun K hK => ?_
    exact rs_field rfl s3 (fl_model0 _ _) (hK _ _ { h with e5 := fun _ => rfl })
   ·intro L s w2 h hk hd hn
    have s12 := h.e5 hd.1
    refine sP fun K hK => ?_
    exact rs_index rfl s12 rfl (ix_model _ 0 (by decide)) (hK _ _ { h with e6 := fun _ => rfl })
   ·intro L s w2 h hk hd hn
    have s13 := h.e6 hd.1
    have s11 := h.e4 hd.2.1
    have kb := h.kt_a hn
    refine sP fun K hK => ?_
    exact rs_store rfl s13 s11 (sp_store (p := 0) kb (by decide) (c * 65536, c * 65536)) (hK _ _ { h with mu := h.mu.put (List.Mem.head _) _, kt_a := nF, kr_a := fun _ => pH kb })
  ·intro L s w2 h hk hl
   refine cA ?_ (hQ2 s w2 (⟨h.mu, h.kr_a (hl 7 (by decide))⟩))
   exact frame_eq hk (by kernel_rfl) (by kernel_rfl)
  ·intro c s w2 hc
   exact hc.elim
 rotate_left
 ·rintro _ _ _ h
  exact h.elim
 rintro s2 V ⟨h1, c_a⟩
 simp only [mergeL]
 replace HD := lh ((h1.same _ (lt_of_block HD.out) (notin1 (by have := HLT.out; omega))).trans HD.out)
 replace HR := lh ((h1.same _ (lt_of_block HR.out) (notin1 (by have := HLT.out; omega))).trans HR.out)
 replace HA := lh c_a
 replace HM := lh (HM.out.stepM h1 (by have := HBW.out; have := HLT.out; intro x hx; simp at hx; right; omega))
 clear h1 c_a
 refine HK2.out _ _ ?_
 refine wsk fun KL HKL => ?_
 refine wp_cut_mergeP (nn :: nn :: nn :: nn :: some 4 :: some 5 :: some 6 :: nn :: nn :: nn :: nn :: nn :: nn :: nn :: some 14 :: some 15 :: some 16 :: some 17 :: some 18 :: some 19 :: some 20 :: some 21 :: some 22 :: some 23 :: some 24 :: some 25 :: some 26 :: some 27 :: some 28 :: some 29 :: some 30 :: some 31 :: some 32 :: some 33 :: some 34 :: some 35 :: some 36 :: some 37 :: some 38 :: some 39 :: some 40 :: some 41 :: some 42 :: some 43 :: some 44 :: some 45 :: some 46 :: some 47 :: some 48 :: some 49 :: some 50 :: n8 (nn :: nn :: [])) (fun _ w' => Mut [g0] V w' ∧ w'.heap[g0]? = some (cobj 34 ((ts.take 8).foldl dTerm (zeroM.set 0 (c * 65536, c * 65536))))) (fun _ _ => False) ?_ ?_ ?_
 ·intro Q2 hQ2 hP2
  go_wp2_with fail
  go_loopw [4] (fun x wr => ∃ k : Nat, k ≤ ts.length ∧ k ≤ 8 ∧ x = .int .i64 k ∧ Hid (Mut [g0] V wr ∧ wr.heap[g0]? = some (cobj 34 ((ts.take k).foldl dTerm (zeroM.set 0 (c * 65536, c * 65536)))))) (fun x _ => 8 - (intOf x).toNat)
  case atStart => exact ⟨0, by omega, by omega, rfl, lh ⟨Mut.refl _ _, HA.out⟩⟩
  case round =>
   obtain ⟨k, hk, hk8, rfl, HG⟩ := hrel
   have HDW := lh ((HG.out.1.same _ (lt_of_block HD.out) (notin1 (by have := HLT.out; omega))).trans HD.out)
   have d0 : wr.cell? ⟨b, 1, none⟩ = some (.slice ao ts.length cap) := by rw [cell_of_row wr b 1 _ _ _ HDW.out]; rfl
   rcases Nat.lt_or_ge k ts.length with hk' | hk'
   ·have tl : decide ((k : Int) < (ts.length : Int)) = true := by simp; omega
    rcases Nat.lt_or_ge k 8 with h8 | h8
    ·obtain ⟨x, hx⟩ : ∃ x, ts[k]? = some x := ⟨_, List.getElem?_eq_getElem hk'⟩
     have HNX : Hid ((ts.take (k + 1)).foldl dTerm (zeroM.set 0 (c * 65536, c * 65536)) = dTerm ((ts.take k).foldl dTerm (zeroM.set 0 (c * 65536, c * 65536))) x) := lh (by rw [List.take_add_one, hx]; simp)
     have HXW := lh (HT.out.wf x (List.mem_of_getElem? hx))
     obtain ⟨tb, toff, hao⟩ : ∃ tb toff, ao = some ⟨tb, toff, none⟩ := by
      cases hao : ao with
      | none => have := HT.out.isNil hao; omega
      | some a => exact ⟨a.block, a.off, congrArg some (HT.out.isSome a hao)⟩
     have HWB := lh (show Below w.heap.size w wr from (HM.out.stepM HG.out.1 (by have := HBW.out; have := HLT.out; intro x hx; simp at hx; right; omega)).to0)
     obtain ⟨c0, c1, c2⟩ := (HT.out.on HWB.out).cells _ hao _ _ hx
     simp only at c0 c1 c2
     rw [hao] at d0
     have hlen : (ts.length : Int) ≤ 9223372036854775807 := by have := HT.out.le; have := HT.out.cmax; omega
     have t8 : decide ((k : Int) < 8) = true := by simp; omega
     have hk1 : (k : Int) < (ts.length : Int) := by omega
     have hk0 : (0 : Int) ≤ (k : Int) := by omega
     have HKN := lh hk'
     have HK8 := lh h8
     have HML := lh (show ((ts.take k).foldl dTerm (zeroM.set 0 (c * 65536, c * 65536))).length = 22 by rw [foldl_dTerm_len]; rfl)
     obtain ⟨M, hM⟩ : ∃ M, (ts.take k).foldl dTerm (zeroM.set 0 (c * 65536, c * 65536)) = M := ⟨_, rfl⟩
     rw [hM] at HG HNX HML
     clear hk hk8 hk' h8 hx HT hao hM
     refine wsk fun K1 HK1 => ?_
     go_wp2_with fail
     refine HK1.out _ _ ?_
     refine wsk fun K2 HK2 => ?_
     refine wp_block ?_
     refine wsk fun K6 HK6 => ?_
     go_wp2_with fail
     refine HK6.out _ _ ?_
     obtain ⟨g, hg⟩ : ∃ g, wr.heap.size = g := ⟨_, rfl⟩
     have HRW := lh ((HG.out.1.same _ (lt_of_block HR.out) (notin1 (by have := HLT.out; omega))).trans HR.out)
     refine wp_world (fun V2 => Mut [g0] V V2 ∧ V2.heap[b]? = some (.cells #[.int .i16 c, .slice ao ts.length cap, .int .u16 r] 26 (0, 0)) ∧ V2.heap[g0]? = some (cobj 34 M) ∧ V2.heap[g]? = some (.cells #[.int .u8 x.1, .int .i16 x.2.1, .int .u8 x.2.2] 68 (0, 0))) ?_
      (by
       rw [← hg]
       exact ⟨HG.out.1.alloc _, heap_up _ HDW.out, heap_up _ HG.out.2, heap_at _ (by simp)⟩)
     have HLT8 := lh (show b < g0 ∧ g0 < g from ⟨by have := HLT.out; omega, by have := lt_of_block HG.out.2; omega⟩)
     have HM0 := HM
     have HLT0 := HLT
     clear HG HDW HRW d0 c0 c1 c2 HWB HM HLT HD HR HA
     rintro V ⟨hm, hd, ha, hx⟩
     rw [hg]
     clear hg
     have HGM := lh hm
     have HM := lh (HM0.out.stepM hm (by have := HBW.out; have := HLT0.out; intro x hx; simp at hx; right; omega))
     have HLT := HLT8
     have HD := lh hd
     have HA := lh ha
     have HX := lh hx
     have x1 : V.cell? ⟨g, 1, none⟩ = some (.int .i16 x.2.1) := by rw [cell_of_row V g 1 _ _ _ hx]; rfl
     have e1 := wr_i64 (x := x.2.1) (by have := HXW.out.2.1; omega)
     have e2 := wr_i64 (x := x.2.1 * 16384) (by have := HXW.out.2.1; omega)
     clear hm hd ha hx HM0 HLT0 HLT8
     refine wsk fun K7 HK7 => ?_
     go_wp2_with fail
     refine HK7.out _ _ ?_
     clear x1 e1 e2
     obtain ⟨kk, hkk⟩ : ∃ kk, (x.1 % 21).toNat = kk := ⟨_, rfl⟩
     have hx0 := HXW.out.1
     have HKL := lh (show kk < 21 by omega)
     have HKM := lh (show x.1 % 21 = (kk : Int) ∧ x.1.tmod 21 = (kk : Int) from ⟨by omega, by rw [Int.tmod_eq_emod_of_nonneg hx0.1]; omega⟩)
     have HKE := lh (show dTerm M x = M.set kk (x.2.1 * 16384 - x.2.2, x.2.1 * 16384 + x.2.2) by unfold dTerm; rw [hkk])
     clear hkk hx0
     refine wp_cut_mergeP (n8 (n8 (n8 (n8 (nn :: nn :: some 34 :: some 35 :: some 36 :: some 37 :: some 38 :: some 39 :: some 40 :: some 41 :: some 42 :: some 43 :: some 44 :: some 45 :: some 46 :: some 47 :: some 48 :: some 49 :: some 50 :: n8 (nn :: nn :: [])))))) (fun _ w' => Mut [g0] V w' ∧ w'.heap[g0]? = some (cobj 34 (M.set kk (x.2.1 * 16384 - x.2.2, x.2.1 * 16384 + x.2.2)))) (fun _ _ => False) ?_ ?_ ?_
     ·intro Q2 hQ2 hP2
      refine wpG ?_
      refine wp_region_G (b := false) (Pn := (fun _ _ => False)) (Dm8 V c r ts ao cap b g0 g x k kk M) (by kernel_rfl) (by kernel_rfl) ?_ ?_ ?_ ?_
      ·exact ⟨Mut.start _ false _, fun _ => HA.out, nB, nB, nB, nB, nB, nB, nB, nB, nB, nB, nB, nB, nB, nB, nB, nB, nB, nB⟩
      ·refine AllSP.cons ?_ (AllSP.cons ?_ (AllSP.cons ?_ (AllSP.cons ?_ (AllSP.cons ?_ (AllSP.cons ?_ (AllSP.cons ?_ (AllSP.cons ?_ (AllSP.cons ?_ (AllSP.cons ?_ (AllSP.cons ?_ (AllSP.cons ?_ (AllSP.cons ?_ (AllSP.cons ?_ (AllSP.cons ?_ (AllSP.cons ?_ (AllSP.cons ?_ (AllSP.cons ?_ AllSP.nil)))))))))))))))))
       ·intro L s w2 h hk hd hn
        have s5 : s 5 = _ := hk 5 (by kernel_rfl)
        refine sP fun K hK => ?_
        go_simp
        exact hK _ _ { h with e0 := fun _ => rfl }
       ·intro L s w2 h hk hd hn
        have s34 := h.e0 hd.1
        have kq := (h.mu.same _ (lt_of_block HX.out) (notin1 (by have := HLT.out; omega))).trans HX.out
        have kc : w2.cell? ⟨g, 0, none⟩ = some (.int .u8 x.1) := by rw [cell_of_row w2 g 0 _ _ _ kq]; rfl
        refine sP fun K hK => ?_
        go_simp
        exact hK _ _ { h with e1 := fun _ => rfl }
       ·intro L s w2 h hk hd hn
        have s35 := h.e1 hd.1
        have e1 := wr_i64 (x := x.1) (by have := HXW.out.1; omega)
        refine sP fun K hK => ?_
        go_simp
        exact hK _ _ { h with e2 := fun _ => rfl }
       ·intro L s w2 h hk hd hn
        have s36 := h.e2 hd.1
        have e1 := HKM.out.1
        have e2 := HKM.out.2
        refine sP fun K hK => ?_
        go_simp
        exact hK _ _ { h with e3 := fun _ => rfl }
       ·intro L s w2 h hk hd hn
        have s6 : s 6 = _ := hk 6 (by kernel_rfl)
        refine sP fun K hK => ?_
        exact rs_move rfl s6 (hK _ _ { h with e4 := fun _ => rfl })
       ·intro L s w2 h hk hd hn
        have s5 : s 5 = _ := hk 5 (by kernel_rfl)
        refine sP fun K hK => ?_
        go_simp
        exact hK _ _ { h with e5 := fun _ => rfl }
       ·intro L s w2 h hk hd hn
        have s39 := h.e5 hd.1
        have kq := (h.mu.same _ (lt_of_block HX.out) (notin1 (by have := HLT.out; omega))).trans HX.out
        have kc : w2.cell? ⟨g, 2, none⟩ = some (.int .u8 x.2.2) := by rw [cell_of_row w2 g 2 _ _ _ kq]; rfl
        refine sP fun K hK => ?_
        go_simp
        exact hK _ _ { h with e6 := fun _ => rfl }
       ·intro L s w2 h hk hd hn
        have s40 := h.e6 hd.1
        have e1 := wr_i64 (x := x.2.2) (by have := HXW.out.2.2; omega)
        refine sP fun K hK => ?_
        go_simp
        exact hK _ _ { h with e7 := fun _ => rfl }
       ·intro L s w2 h hk hd hn
        have s38 := h.e4 hd.1
        have s41 := h.e7 hd.2.1
        have e1 := wr_i64 (x := x.2.1 * 16384 - x.2.2) (by have := HXW.out.2; omega)
        refine sP fun K hK => ?_
        go_simp
        exact hK _ _ { h with e8 := fun _ => rfl }
       ·intro L s w2 h hk hd hn
        have s6 : s 6 = _ := hk 6 (by kernel_rfl)
        refine sP fun K hK => ?_
        exact rs_move rfl s6 (hK _ _ { h with e9 := fun _ => rfl })
       ·intro L s w2 h hk hd hn
        have s5 : s 5 = _ := hk 5 (by kernel_rfl)
        refine sP fun K hK => ?_
        go_simp
        exact hK _ _ { h with e10 := fun _ => rfl }
       ·intro L s w2 h hk hd hn
        have s44 := h.e10 hd.1
        have kq := (h.mu.same _ (lt_of_block HX.out) (notin1 (by have := HLT.out; omega))).trans HX.out
        have kc : w2.cell? ⟨g, 2, none⟩ = some (.int .u8 x.2.2) := by rw [cell_of_row w2 g 2 _ _ _ kq]; rfl
        refine sP fun K hK => ?_
        go_simp
        exact hK _ _ { h with e11 := fun _ => rfl }
       ·intro L s w2 h hk hd hn
        have s45 := h.e11 hd.1
        have e1 := wr_i64 (x := x.2.2) (by have := HXW.out.2.2; omega)
        refine sP fun K hK => ?_
        go_simp
        exact hK _ _ { h with e12 := fun _ => rfl }
       ·intro L s w2 h hk hd hn
        have s43 := h.e9 hd.1
        have s46 := h.e12 hd.2.1
        have e1 := wr_i64 (x := x.2.1 * 16384 + x.2.2) (by have := HXW.out.2; omega)
        refine sP fun K hK => ?_
        go_simp
        exact hK _ _ { h with e13 := fun _ => rfl }
       ·intro L s w2 h hk hd hn
        have s42 := h.e8 hd.1
        have s47 := h.e13 hd.2.1
        refine sP fun K hK => ?_
        go_simp
        exact hK _ _ { h with e14 := fun _ => rfl }
       ·intro L s w2 h hk hd hn
        have s3 : s 3 = _ := hk 3 (by kernel_rfl)
        refine sP fun K hK => ?_
        exact rs_field rfl s3 (fl_model0 _ _) (hK _ _ { h with e15 := fun _ => rfl })
       ·intro L s w2 h hk hd hn
        have s49 := h.e15 hd.1
        have s37 := h.e3 hd.2.1
        refine sP fun K hK => ?_
        exact rs_index rfl s49 s37 (ix_model _ kk HKL.out) (hK _ _ { h with e16 := fun _ => rfl })
       ·intro L s w2 h hk hd hn
        have s50 := h.e16 hd.1
        have s48 := h.e14 hd.2.1
        have kb := h.kt_a hn
        refine sP fun K hK => ?_
        exact rs_store rfl s50 s48 (sp_store (p := kk) kb (by have := HML.out; have := HKL.out; omega) (x.2.1 * 16384 - x.2.2, x.2.1 * 16384 + x.2.2)) (hK _ _ { h with mu := h.mu.put (List.Mem.head _) _, kt_a := nF, kr_a := fun _ => pH kb })
      ·intro L s w2 h hk hl
       refine cA ?_ (hQ2 s w2 (⟨h.mu, h.kr_a (hl 17 (by decide))⟩))
       exact frame_eq hk (by kernel_rfl) (by kernel_rfl)
      ·intro c s w2 hc
       exact hc.elim
     rotate_left
     ·rintro _ _ _ h
      exact h.elim
     rintro s8 V ⟨h1, c_a⟩
     simp only [mergeL]
     replace HD := lh ((h1.same _ (lt_of_block HD.out) (notin1 (by have := HLT.out; omega))).trans HD.out)
     replace HA := lh c_a
     replace HX := lh ((h1.same _ (lt_of_block HX.out) (notin1 (by have := HLT.out; omega))).trans HX.out)
     replace HM := lh (HM.out.stepM h1 (by have := HBW.out; have := HLT.out; intro x hx; simp at hx; right; omega))
     have HF := lh (HGM.out.trans h1)
     clear h1 c_a
     refine HK2.out _ _ ?_
     rw [← HKE.out, ← HNX.out] at HA
     have HF2 := lh HA.out
     have HF1 := HF
     go_wp2_with fail
     go_roundw
     case rel => first | exact ⟨k + 1, by have := HKN.out; omega, by have := HK8.out; omega, by go_num, lh ⟨HF1.out, HF2.out⟩⟩ | ((repeat apply Exists.intro); exact ⟨⟨k + 1, by have := HKN.out; omega, by have := HK8.out; omega, by go_num, lh ⟨HF1.out, HF2.out⟩⟩, rfl⟩)
     case measure => simp [intOf]; have := HK8.out; omega
    ·obtain rfl : k = 8 := by omega
     have t1 : decide ((8 : Int) < (ts.length : Int)) = true := by simp; omega
     go_wp2_with fail
     exact merge_meet hQ2 (by kernel_rfl) ⟨HG.out.1, HG.out.2⟩
   ·have tl : decide ((k : Int) < (ts.length : Int)) = false := by simp; omega
    have HE := lh (show (ts.take k).foldl dTerm (zeroM.set 0 (c * 65536, c * 65536)) = (ts.take 8).foldl dTerm (zeroM.set 0 (c * 65536, c * 65536)) by rw [List.take_of_length_le (by omega), List.take_of_length_le (by omega)])
    rw [HE.out] at HG
    go_wp2_with fail
    exact merge_meet hQ2 (by kernel_rfl) ⟨HG.out.1, HG.out.2⟩
 rotate_left
 ·rintro _ _ _ h
  exact h.elim
 rintro sL V ⟨h1, h2⟩
 simp only [mergeL]
 have HML := lh (show ((ts.take 8).foldl dTerm (zeroM.set 0 (c * 65536, c * 65536))).length = 22 by rw [foldl_dTerm_len]; rfl)
 have HE := lh (show dModel c ts r = ((ts.take 8).foldl dTerm (zeroM.set 0 (c * 65536, c * 65536))).set 21 (-r, r) from rfl)
 obtain ⟨M, hM⟩ : ∃ M, ((ts.take 8).foldl dTerm (zeroM.set 0 (c * 65536, c * 65536))) = M := ⟨_, rfl⟩
 rw [hM] at h2 HML HE
 replace HM := lh (HM.out.stepM h1 (by have := HBW.out; have := HLT.out; intro x hx; simp at hx; right; omega))
 replace HD := lh ((h1.same _ (lt_of_block HD.out) (notin1 (by have := HLT.out; omega))).trans HD.out)
 replace HR := lh ((h1.same _ (lt_of_block HR.out) (notin1 (by have := HLT.out; omega))).trans HR.out)
 replace HA := lh h2
 clear h1 h2 hM
 refine HKL.out _ _ ?_
 refine wsk fun K9 HK9 => ?_
 refine wp_cut_mergeP (n8 (n8 (n8 (n8 (n8 (n8 (nn :: nn :: nn :: some 51 :: some 52 :: some 53 :: some 54 :: some 55 :: some 56 :: some 57 :: some 58 :: some 59 :: nn :: []))))))) (fun _ w' => Mut [g0] V w' ∧ w'.heap[g0]? = some (cobj 34 (M.set 21 (-r, r)))) (fun _ _ => False) ?_ ?_ ?_
 ·intro Q2 hQ2 hP2
  refine wpG ?_
  refine wp_region_G (b := false) (Pn := (fun _ _ => False)) (Dm9 V c r ts ao cap b g0 M) (by kernel_rfl) (by kernel_rfl) ?_ ?_ ?_ ?_
  ·exact ⟨Mut.start _ false _, fun _ => HA.out, nB, nB, nB, nB, nB, nB, nB, nB, nB, nB⟩
  ·refine AllSP.cons ?_ (AllSP.cons ?_ (AllSP.cons ?_ (AllSP.cons ?_ (AllSP.cons ?_ (AllSP.cons ?_ (AllSP.cons ?_ (AllSP.cons ?_ (AllSP.cons ?_ (AllSP.cons ?_ AllSP.nil)))))))))
   ·intro L s w2 h hk hd hn
    have s1 : s 1 = _ := hk 1 (by kernel_rfl)
    refine sP fun K hK => ?_
    go_simp
    exact hK _ _ { h with e0 := fun _ => rfl }
   ·intro L s w2 h hk hd hn
    have s51 := h.e0 hd.1
    have kq := (h.mu.same _ (lt_of_block HD.out) (notin1 (by have := HLT.out; omega))).trans HD.out
    have kc : w2.cell? ⟨b, 2, none⟩ = some (.int .u16 r) := by rw [cell_of_row w2 b 2 _ _ _ kq]; rfl
    refine sP fun K hK => ?_
    go_simp
    exact hK _ _ { h with e1 := fun _ => rfl }
   ·intro L s w2 h hk hd hn
    have s52 := h.e1 hd.1
    have e1 := wr_i64 (x := r) (by have := HRR.out; omega)
    refine sP fun K hK => ?_
    go_simp
    exact hK _ _ { h with e2 := fun _ => rfl }
   ·intro L s w2 h hk hd hn
    have s53 := h.e2 hd.1
    have e1 := wr_i64 (x := -r) (by have := HRR.out; omega)
    refine sP fun K hK => ?_
    go_simp
    exact hK _ _ { h with e3 := fun _ => rfl }
   ·intro L s w2 h hk hd hn
    have s1 : s 1 = _ := hk 1 (by kernel_rfl)
    refine sP fun K hK => ?_
    go_simp
    exact hK _ _ { h with e4 := fun _ => rfl }
   ·intro L s w2 h hk hd hn
    have s55 := h.e4 hd.1
    have kq := (h.mu.same _ (lt_of_block HD.out) (notin1 (by have := HLT.out; omega))).trans HD.out
    have kc : w2.cell? ⟨b, 2, none⟩ = some (.int .u16 r) := by rw [cell_of_row w2 b 2 _ _ _ kq]; rfl
    refine sP fun K hK => ?_
    go_simp
    exact hK _ _ { h with e5 := fun _ => rfl }
   ·intro L s w2 h hk hd hn
    have s56 := h.e5 hd.1
    have e1 := wr_i64 (x := r) (by have := HRR.out; omega)
    refine sP fun K hK => ?_
    go_simp
    exact hK _ _ { h with e6 := fun _ => rfl }
   ·intro L s w2 h hk hd hn
    have s54 := h.e3 hd.1
    have s57 := h.e6 hd.2.1
    refine sP fun K hK => ?_
    go_simp
    exact hK _ _ { h with e7 := fun _ => rfl }
   ·intro L s w2 h hk hd hn
    have s3 : s 3 = _ := hk 3 (by kernel_rfl)
    refine sP fun K hK => ?_
    exact rs_field rfl s3 (fl_model1 _ _) (hK _ _ { h with e8 := fun _ => rfl })
   ·intro L s w2 h hk hd hn
    have s59 := h.e8 hd.1
    have s58 := h.e7 hd.2.1
    have kb := h.kt_a hn
    refine sP fun K hK => ?_
    exact rs_store rfl s59 s58 (sp_store (p := 21) kb (by have := HML.out; omega) (-r, r)) (hK _ _ { h with mu := h.mu.put (List.Mem.head _) _, kt_a := nF, kr_a := fun _ => pH kb })
  ·intro L s w2 h hk hl
   refine cA ?_ (hQ2 s w2 (⟨h.mu, h.kr_a (hl 9 (by decide))⟩))
   exact frame_eq hk (by kernel_rfl) (by kernel_rfl)
  ·intro c s w2 hc
   exact hc.elim
 rotate_left
 ·rintro _ _ _ h
  exact h.elim
 rintro s9 V ⟨h1, c_a⟩
 simp only [mergeL]
 replace HD := lh ((h1.same _ (lt_of_block HD.out) (notin1 (by have := HLT.out; omega))).trans HD.out)
 replace HR := lh ((h1.same _ (lt_of_block HR.out) (notin1 (by have := HLT.out; omega))).trans HR.out)
 replace HA := lh c_a
 replace HM := lh (HM.out.stepM h1 (by have := HBW.out; have := HLT.out; intro x hx; simp at hx; right; omega))
 clear h1 c_a
 refine HK9.out _ _ ?_
 refine wsk fun K10 HK10 => ?_
 refine wp_cut_mergeP (n8 (n8 (n8 (n8 (n8 (n8 (n8 (nn :: nn :: nn :: nn :: some 60 :: [])))))))) (fun _ w' => Mut [b + 1] V w' ∧ w'.heap[b + 1]? = some (cobj 34 (M.set 21 (-r, r)))) (fun _ _ => False) ?_ ?_ ?_
 ·intro Q2 hQ2 hP2
  refine wpG ?_
  refine wp_region_G (b := false) (Pn := (fun _ _ => False)) (Dm10 V c r ts ao cap b g0 M) (by kernel_rfl) (by kernel_rfl) ?_ ?_ ?_ ?_
  ·exact ⟨Mut.start _ false _, fun _ => HR.out, nB, nB⟩
  ·refine AllSP.cons ?_ (AllSP.cons ?_ AllSP.nil)
   ·intro L s w2 h hk hd hn
    have s3 : s 3 = _ := hk 3 (by kernel_rfl)
    have kb := ((h.mu.same _ ((Array.getElem?_eq_some_iff.1 HA.out).1) (notin1 (by have := HLT.out; omega))).trans HA.out)
    refine sP fun K hK => ?_
    exact rs_load rfl s3 (md_load kb (by rw [List.length_set]; exact HML.out)) (hK _ _ { h with e0 := fun _ => rfl })
   ·intro L s w2 h hk hd hn
    have s2 : s 2 = _ := hk 2 (by kernel_rfl)
    have s60 := h.e0 hd.1
    have kb := h.kt_r hn
    refine sP fun K hK => ?_
    exact rs_store rfl s2 s60 (md_store kb rfl _ (by rw [List.length_set]; exact HML.out)) (hK _ _ { h with mu := h.mu.put (List.Mem.head _) _, kt_r := nF, kr_r := fun _ => pH kb })
  ·intro L s w2 h hk hl
   refine cA ?_ (hQ2 s w2 (⟨h.mu, h.kr_r (hl 1 (by decide))⟩))
   exact frame_eq hk (by kernel_rfl) (by kernel_rfl)
  ·intro c s w2 hc
   exact hc.elim
 rotate_left
 ·rintro _ _ _ h
  exact h.elim
 rintro s10 V ⟨h1, c_r⟩
 simp only [mergeL]
 replace HD := lh ((h1.same _ (lt_of_block HD.out) (notin1 (by have := HLT.out; omega))).trans HD.out)
 replace HR := lh c_r
 replace HA := lh ((h1.same _ (lt_of_block HA.out) (notin1 (by have := HLT.out; omega))).trans HA.out)
 replace HM := lh (HM.out.stepM h1 (by have := HBW.out; have := HLT.out; intro x hx; simp at hx; right; omega))
 clear h1 c_r
 refine HK10.out _ _ ?_
 refine wp_ret ?_
 rw [HE.out]
 exact bodyPost_ret (v := mval (M.set 21 (-r, r))) (res_model Tryz.results13 rfl (md_loadVar HR.out (by rw [List.length_set]; exact HML.out))) rfl ⟨rfl, by rw [← HBW.out]; exact HM.out.to0⟩
end Go.Proofs.YthhkcfpljgdnhaaGreat
