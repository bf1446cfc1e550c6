/- Contracts of package poly: the closure of value; down and its iterator. -/
import Derived.Test.YtgfofilkpaelnaaSpanG
import Derived.Test.YtgfofilkpaelnaaPolyA
namespace Go.Proofs.Ytgfofilkpaelnaa
open Go.RowKit Go.Shelf Mnc
attribute [local go_sem] Oper.semAt_some

/-- What extend leaves: the value and the error, all else as it was. -/
structure Ext (w w' : World) (Bv Be : Nat) (r : (Int × Int) × Int) : Prop where
  keep : KeepsOthers w w'
  bel : ∀ n, n ≤ Bv → n ≤ Be → n ≤ w.heap.size → Below n w w'
  bv : w'.heap[Bv]? = some (.cells #[.int .i64 r.1.1, .int .i64 r.1.2] 24 (0, 0))
  be : w'.heap[Be]? = some (.cells #[.int .i64 r.2] 35 (0, 0))
  oth : ∀ k, k < w.heap.size → k ≠ Bv → k ≠ Be → w'.heap[k]? = w.heap[k]?

theorem set2_at {w : World} {B : Nat} {x y u v : Int} {t : TypeId} (h : w.heap[B]? = some (.cells #[.int .i64 x, .int .i64 y] t (0, 0))) : ((w.setCell ⟨B, 0, none⟩ (.int .i64 u)).setCell ⟨B, 1, none⟩ (.int .i64 v)).heap[B]? = some (.cells #[.int .i64 u, .int .i64 v] t (0, 0)) := by
  rw [heap_setCell_same _ _ _ _ _ _ (heap_setCell_same _ _ _ _ _ _ h)]; rfl
theorem set1_at {w : World} {B : Nat} {x u : Int} {t : TypeId} (h : w.heap[B]? = some (.cells #[.int .i64 x] t (0, 0))) : (w.setCell ⟨B, 0, none⟩ (.int .i64 u)).heap[B]? = some (.cells #[.int .i64 u] t (0, 0)) := by
  rw [heap_setCell_same _ _ _ _ _ _ h]; rfl

theorem Ext.put {w w1 : World} {Bv Be : Nat} {r0 : (Int × Int) × Int} (hne : Bv ≠ Be) (hbv : w1.heap[Bv]? = some (.cells #[.int .i64 r0.1.1, .int .i64 r0.1.2] 24 (0, 0))) (hbe : w1.heap[Be]? = some (.cells #[.int .i64 r0.2] 35 (0, 0)))
    (keep : KeepsOthers w w1) (bel : ∀ n, n ≤ Bv → n ≤ Be → n ≤ w.heap.size → Below n w w1) (oth : ∀ k, k < w.heap.size → k ≠ Bv → k ≠ Be → w1.heap[k]? = w.heap[k]?) (r : (Int × Int) × Int) :
    Ext w (((w1.setCell ⟨Bv, 0, none⟩ (.int .i64 r.1.1)).setCell ⟨Bv, 1, none⟩ (.int .i64 r.1.2)).setCell ⟨Be, 0, none⟩ (.int .i64 r.2)) Bv Be r where
  keep := ((keep.trans (KeepsOthers.setCell _ _ _)).trans (KeepsOthers.setCell _ _ _)).trans (KeepsOthers.setCell _ _ _)
  bel := fun n h1 h2 h3 => (((bel n h1 h2 h3).setCell h1 _).setCell h1 _).setCell h2 _
  bv := by rw [heap_setCell_other _ _ _ _ (by simp; omega)]; exact set2_at hbv
  be := by
    refine set1_at (x := r0.2) ?_
    rw [heap_setCell_other _ _ _ _ (by simp; omega), heap_setCell_other _ _ _ _ (by simp; omega)]
    exact hbe
  oth := fun k h1 h2 h3 => by
    rw [heap_setCell_other _ _ _ _ (by simp; omega), heap_setCell_other _ _ _ _ (by simp; omega), heap_setCell_other _ _ _ _ (by simp; omega)]
    exact oth k h1 h2 h3

theorem pStep_ok {s v c : Int × Int} (h : (sMul v s).2 = 0) : pStep s v c = sAdd (sMul v s).1 c := if_pos h
theorem pStep_bad {s v c : Int × Int} (h : ¬ (sMul v s).2 = 0) : pStep s v c = sMul v s := if_neg h

set_option maxRecDepth 100000 in
set_option maxHeartbeats 1000000 in
theorem poly_extend (s v c : Int × Int) (e0 : Int) (w : World) (Bv Bs Be : Nat) (h1 : Bv ≠ Be) (hv : w.heap[Bv]? = some (.cells #[.int .i64 v.1, .int .i64 v.2] 24 (0, 0))) (hs : w.heap[Bs]? = some (.cells #[.int .i64 s.1, .int .i64 s.2] 24 (0, 0))) (he : w.heap[Be]? = some (.cells #[.int .i64 e0] 35 (0, 0))) :
    Calls Try.prog 149 #[.agg #[.int .i64 c.1, .int .i64 c.2], .pointer (some ⟨Bv, 0, none⟩), .pointer (some ⟨Bs, 0, none⟩), .pointer (some ⟨Be, 0, none⟩)] w fun e w' => (∃ v, e = .returned v) ∧ Ext w w' Bv Be (pStep s v c) := by
  have lv := lt_of_block hv
  have ls := lt_of_block hs
  have le := lt_of_block he
  have hc := heap_at (w := w) (.cells #[.int .i64 c.1, .int .i64 c.2] 24) rfl
  have hv1 := heap_up (.cells #[.int .i64 c.1, .int .i64 c.2] 24) hv
  have hs1 := heap_up (.cells #[.int .i64 c.1, .int .i64 c.2] 24) hs
  have he1 := heap_up (.cells #[.int .i64 c.1, .int .i64 c.2] 24) he
  have hb1 := below_alloc (Below.refl w.heap.size w) (.cells #[.int .i64 c.1, .int .i64 c.2] 24)
  have v0 := cell_two0 hv1
  have v1 := cell_two1 hv1
  have s0 := cell_two0 hs1
  have s1 := cell_two1 hs1
  have H1 := Lib.hid h1
  have Lv := Lib.hid lv
  have Ls := Lib.hid ls
  have Le := Lib.hid le
  have HC := Lib.hid hc
  have HV1 := Lib.hid hv1
  have HE1 := Lib.hid he1
  have n1 : ¬ Bv = Be := h1
  have n2 : ¬ Be = Bv := fun h => h1 h.symm
  have n3 : ¬ w.heap.size = Bv := by omega
  have n4 : ¬ w.heap.size = Be := by omega
  have n5 : ¬ Bv = w.heap.size := by omega
  have n6 : ¬ Be = w.heap.size := by omega
  clear hv hs he hs1 lv ls le h1 hc hv1 he1
  obtain ⟨m, hm⟩ : ∃ m, m = sMul v s := ⟨_, rfl⟩
  have HM := Lib.hid (fun W => span_Mul v s W)
  rw [← hm] at HM
  by_cases hz : m.2 = 0
  · have HR : Hid (pStep s v c = sAdd m.1 c) := Lib.hid (by rw [hm] at hz; rw [pStep_ok hz, ← hm])
    have HZ := Lib.hid hz
    rw [hz] at HM
    have HA := Lib.hid (fun W => span_Add m.1 c W)
    rw [← HR.out] at HA
    clear hz hm
    go_enter Try.func149, Try.ntmps149
    go_wp2_with fail
    refine (HM.out _).mono ?_; rintro e w2 ⟨rfl, hbel⟩
    have hb2 := below_step hb1 hbel
    have HV2 := (hbel.block _ (lt_of_block HV1.out)).trans HV1.out
    have HE2 := (hbel.block _ (lt_of_block HE1.out)).trans HE1.out
    have HC2 := (hbel.block _ (lt_of_block HC.out)).trans HC.out
    clear v0 v1 s0 s1 hb1 hbel
    have v0 := cell_two0 HV2
    have v1 := cell_two1 HV2
    have e0' := cell_of_one HE2
    have f0 := free_two (i := 0) HV2
    have f1 := free_two (i := 1) HV2
    have fe := free_of_one HE2
    have c0 := cell_two0 HC2
    have c1 := cell_two1 HC2
    have lv2 := lt_of_block HV2
    have le2 := lt_of_block HE2
    have hX := Ext.put (r0 := (v, e0)) H1.out HV2 HE2 (keeps_of_below hb2) (fun n _ _ h3 => hb2.mono h3) (fun k hk _ _ => hb2.block k hk) (m.1, 0)
    have HV2 := Lib.hid HV2
    have HE2 := Lib.hid HE2
    have HC2 := Lib.hid HC2
    go_wp2_with fail
    generalize (((w2.setCell ⟨Bv, 0, none⟩ (.int .i64 m.1.1)).setCell ⟨Bv, 1, none⟩ (.int .i64 m.1.2)).setCell ⟨Be, 0, none⟩ (.int .i64 0)) = W3 at *
    refine (HA.out _).mono ?_; rintro e w4 ⟨rfl, hbel⟩
    have HV4 := (hbel.block _ (lt_of_block hX.bv)).trans hX.bv
    have HE4 := (hbel.block _ (lt_of_block hX.be)).trans hX.be
    have hY := Ext.put (r0 := (m.1, 0)) H1.out HV4 HE4 (hX.keep.trans (keeps_of_below hbel)) (fun n h1 h2 h3 => (hX.bel n h1 h2 h3).trans (hbel.mono (Nat.le_trans h3 hX.keep.size))) (fun k hk h1 h2 => (hbel.block k (Nat.lt_of_lt_of_le hk hX.keep.size)).trans (hX.oth k hk h1 h2)) (pStep s v c)
    clear v0 v1 e0' f0 f1 fe c0 c1 lv2 le2 hX hbel
    have v0 := cell_two0 HV4
    have v1 := cell_two1 HV4
    have e0' := cell_of_one HE4
    have f0 := free_two (i := 0) HV4
    have f1 := free_two (i := 1) HV4
    have fe := free_of_one HE4
    have HV4 := Lib.hid HV4
    have HE4 := Lib.hid HE4
    go_wp2_with fail
    go_end0
    exact ⟨⟨_, rfl⟩, hY⟩
  · have HR : Hid (pStep s v c = m) := Lib.hid (by rw [hm] at hz; rw [pStep_bad hz, ← hm])
    rw [HR.out]
    have hz2 : (m.2 == 0) = false := by simp [hz]
    clear hz hm
    go_enter Try.func149, Try.ntmps149
    go_wp2_with fail
    refine (HM.out _).mono ?_; rintro e w2 ⟨rfl, hbel⟩
    have hb2 := below_step hb1 hbel
    have HV2 := (hbel.block _ (lt_of_block HV1.out)).trans HV1.out
    have HE2 := (hbel.block _ (lt_of_block HE1.out)).trans HE1.out
    clear v0 v1 s0 s1 hb1 hbel
    have v0 := cell_two0 HV2
    have v1 := cell_two1 HV2
    have e0' := cell_of_one HE2
    have f0 := free_two (i := 0) HV2
    have f1 := free_two (i := 1) HV2
    have fe := free_of_one HE2
    have hX := Ext.put (r0 := (v, e0)) H1.out HV2 HE2 (keeps_of_below hb2) (fun n _ _ h3 => hb2.mono h3) (fun k hk _ _ => hb2.block k hk) m
    have HV2 := Lib.hid HV2
    have HE2 := Lib.hid HE2
    go_wp2_with fail
    go_end0
    exact ⟨⟨_, rfl⟩, hX⟩

theorem poly_down (v : Value) (w : World) (hv : ∃ ao n c, v = .slice ao n c) :
    Calls Try.prog 150 #[v] w fun e w' => e = .returned (.func (.func 178) #[] #[.pointer (some ⟨w.heap.size, 0, none⟩)]) ∧ w.alloc (.cells #[v] 22) = w' := by
  obtain ⟨ao, n, c, rfl⟩ := hv
  go_enter Try.func150, Try.ntmps150
  go_wp2
  go_ret
  exact ⟨rfl, rfl⟩

def encS (x : Int × Int) : Array Value := #[.agg #[.int .i64 x.1, .int .i64 x.2]]
/-- What a round must keep: what lay below, and the box of the slice. -/
def KeepD (n₀ A : Nat) (W W' : World) : Prop := Below n₀ W W' ∧ W'.heap[A]? = W.heap[A]?
theorem KeepD.trans {n₀ A : Nat} {U V W : World} (h : KeepD n₀ A U V) (k : KeepD n₀ A V W) : KeepD n₀ A U W := ⟨h.1.trans k.1, k.2.trans h.2⟩

theorem SpSl.below {W W' : World} {ao : Option Addr} {cap n₀ : Nat} {l : List (Int × Int)} (h : SpSl W ao cap l) (hlt : ∀ a, ao = some a → l ≠ [] → a.block < n₀) (k : Below n₀ W W') : SpSl W' ao cap l :=
  ⟨h.le, h.max, h.cmax, h.isNil, h.isSome, fun a ha j u hu => by
    have h2 := h.cells a ha j u hu
    have hl : l ≠ [] := by rintro rfl; simp [flat] at hu
    have hb : (a.add j).block < n₀ := by
      have := hlt a ha hl
      have e := h.isSome a ha
      rw [e, add_plain]
      exact this
    rw [k.cell hb]
    exact h2⟩
theorem SpSl.at {W : World} {b off cap i : Nat} {l : List (Int × Int)} {c : Int × Int} (h : SpSl W (some ⟨b, off, none⟩) cap l) (hc : l[i]? = some c) : W.cell? ⟨b, off + i * 2, none⟩ = some (.int .i64 c.1) ∧ W.cell? ⟨b, off + i * 2 + 1, none⟩ = some (.int .i64 c.2) := by
  obtain ⟨h1, h2⟩ := flat_at l i c hc
  have a := h.cells _ rfl _ _ h1
  have b := h.cells _ rfl _ _ h2
  rw [add_plain] at a b
  rw [Nat.mul_comm i 2]
  exact ⟨a, b⟩

set_option maxRecDepth 100000 in
set_option maxHeartbeats 2000000 in
theorem down_some (l : List (Int × Int)) (b off cap : Nat) (n : Nat) (hn : 1 ≤ n) (n₀ A : Nat) (w : World) (hA : w.heap[A]? = some (.cells #[.slice (some ⟨b, off, none⟩) l.length cap] 22 (0, 0)))
    (hl : SpSl w (some ⟨b, off, none⟩) cap l) (hlt : l ≠ [] → b < n₀) :
    SeqStopsK Fence.wide n Try.prog 178 #[.pointer (some ⟨A, 0, none⟩)] encS (KeepD n₀ A) (fun xs => xs = l.reverse) (fun pre => pre <+: l.reverse) l.length w := fun lp J Jx W hW hJ hJx hY h0 => by
  have hA := (hW.block _ (lt_of_block hA)).trans hA
  have hl := hl.on hW
  have hle := hl.le
  have hmax := hl.max
  have HLT : Hid (∀ a, some (⟨b, off, none⟩ : Addr) = some a → l ≠ [] → a.block < n₀) := Lib.hid (fun a e h => by cases e; exact hlt h)
  have HRL : Hid (l.reverse.length = l.length) := Lib.hid (by simp)
  obtain ⟨N, hN⟩ : ∃ N, N = l.length := ⟨_, rfl⟩
  have HN := Lib.hid hN
  rw [← hN] at hA hle hmax hY HRL
  have a0 := cell_of_one hA
  have HA := Lib.hid hA
  have HL := Lib.hid hl
  clear hA hl hlt hN
  refine callsIn_of_wp Try.func178 rfl trivial ?_ rfl
  simp only [Try.ntmps178, List.size_toArray, List.length_cons, List.length_nil, Nat.reduceAdd, Nat.reduceSub, Array.replicate_succ, Array.replicate_zero, List.push_toArray, List.append_toArray, List.nil_append, List.cons_append]
  gi_wp2
  gi_loopw [3] (fun i wr => ∃ k : Nat, k ≤ N ∧ i = .int .i64 ((k : Int) - 1) ∧ Hid (J (l.reverse.take (N - k)) wr) ∧ Hid (SpSl wr (some ⟨b, off, none⟩) cap l) ∧ Hid (wr.heap[A]? = some (.cells #[.slice (some ⟨b, off, none⟩) N cap] 22 (0, 0)))) (fun i _ => (intOf i + 1).toNat)
  case atStart => exact ⟨N, Nat.le_refl _, rfl, Lib.hid (by simpa using h0), HL, HA⟩
  case round =>
    clear a0
    obtain ⟨k, hk, rfl, HJ, HL2, HA2⟩ := hrel
    rcases Nat.eq_zero_or_pos k with rfl | hk0
    · gi_wp2
      go_end0
      exact ⟨⟨_, rfl⟩, .inl ⟨_, rfl, by have := HJ.out; rwa [Nat.sub_zero, List.take_of_length_le (by rw [HRL.out]; exact Nat.le_refl _)] at this⟩⟩
    · obtain ⟨j, rfl⟩ : ∃ j, k = j + 1 := ⟨k - 1, by omega⟩
      rw [show (((j + 1 : Nat) : Int) - 1) = (j : Int) by omega]
      obtain ⟨c, hc⟩ : ∃ c, l[j]? = some c := ⟨_, List.getElem?_eq_getElem (by rw [← HN.out]; omega)⟩
      obtain ⟨c0, c1⟩ := HL2.out.at hc
      have a0 := cell_of_one HA2.out
      have HNX : Hid (l.reverse.take (N - j) = l.reverse.take (N - (j + 1)) ++ [c]) := Lib.hid (by
        have e : N - j = N - (j + 1) + 1 := by omega
        rw [e, List.take_add_one]
        congr 1
        have h2 : l.reverse[N - (j + 1)]? = some c := by
          rw [List.getElem?_reverse (by rw [← HN.out]; omega), ← HN.out]
          rw [show N - 1 - (N - (j + 1)) = j by omega]
          exact hc
        rw [h2]
        rfl)
      have HP : Hid (l.reverse.take (N - (j + 1)) ++ [c] <+: l.reverse) := Lib.hid (by rw [← HNX.out]; exact List.take_prefix _ _)
      obtain ⟨fn, tmps, assign, body, hy, hR⟩ := hY _ c wr HJ.out (by simp; omega)
      dsimp only [encS] at hy
      clear hc
      gi_wp2
      refine hR.mono ?_
      rintro e W3 (⟨rfl, hJ3, hk3⟩ | ⟨rfl, hJx3⟩)
      · have HJ3 := Lib.hid hJ3
        have HL3 := Lib.hid (HL2.out.below HLT.out hk3.1)
        have HA3 := Lib.hid (hk3.2.trans HA2.out)
        clear hJ3 hk3 c0 c1 a0
        gi_wp2
        go_roundw
        case rel => first | exact ⟨j, by omega, rfl, Lib.hid (by rw [HNX.out]; exact HJ3.out), HL3, HA3⟩ | ((repeat apply Exists.intro); exact ⟨⟨j, by omega, rfl, Lib.hid (by rw [HNX.out]; exact HJ3.out), HL3, HA3⟩, rfl⟩)
        case measure => simp [intOf]
      · have HJ3 := Lib.hid hJx3
        clear hJx3 c0 c1 a0
        gi_wp2
        refine bodyPost_ret (results_none rfl _ _ _) rfl ?_
        exact ⟨⟨_, rfl⟩, .inr ⟨_, HP.out, HJ3.out⟩⟩

set_option maxRecDepth 100000 in
set_option maxHeartbeats 2000000 in
theorem down_none (n : Nat) (n₀ A : Nat) (w : World) (hA : w.heap[A]? = some (.cells #[.slice none 0 0] 22 (0, 0))) :
    SeqStopsK Fence.wide n Try.prog 178 #[.pointer (some ⟨A, 0, none⟩)] encS (KeepD n₀ A) (fun xs => xs = ([] : List (Int × Int)).reverse) (fun pre => pre <+: ([] : List (Int × Int)).reverse) 0 w := fun lp J Jx W hW hJ hJx hY h0 => by
  have hA := (hW.block _ (lt_of_block hA)).trans hA
  have a0 := cell_of_one hA
  clear hA hY
  refine callsIn_of_wp Try.func178 rfl trivial ?_ rfl
  simp only [Try.ntmps178, List.size_toArray, List.length_cons, List.length_nil, Nat.reduceAdd, Nat.reduceSub, Array.replicate_succ, Array.replicate_zero, List.push_toArray, List.append_toArray, List.nil_append, List.cons_append]
  gi_wp2
  gi_loopw [3] (fun i wr => i = .int .i64 (-1) ∧ Hid (J [] wr)) (fun i _ => (intOf i + 1).toNat)
  case atStart => exact ⟨rfl, Lib.hid h0⟩
  case round =>
    clear a0
    obtain ⟨rfl, HJ⟩ := hrel
    gi_wp2
    go_end0
    exact ⟨⟨_, rfl⟩, .inl ⟨_, rfl, HJ.out⟩⟩

theorem down_in (l : List (Int × Int)) (ao : Option Addr) (cap : Nat) (n : Nat) (hn : 1 ≤ n) (n₀ A : Nat) (w : World) (hA : w.heap[A]? = some (.cells #[.slice ao l.length cap] 22 (0, 0)))
    (hl : SpSl w ao cap l) (hlt : ∀ a, ao = some a → l ≠ [] → a.block < n₀) :
    SeqStopsK Fence.wide n Try.prog 178 #[.pointer (some ⟨A, 0, none⟩)] encS (KeepD n₀ A) (fun xs => xs = l.reverse) (fun pre => pre <+: l.reverse) l.length w := by
  cases ao with
  | none =>
    obtain ⟨h0, hc⟩ := hl.isNil rfl
    obtain rfl : l = [] := List.eq_nil_of_length_eq_zero h0
    subst hc
    exact down_none n n₀ A w hA
  | some a =>
    have ha := hl.isSome a rfl
    obtain ⟨b, off, ax⟩ := a
    cases ha
    exact down_some l b off cap n hn n₀ A w hA hl (fun h => hlt _ rfl h)
end Go.Proofs.Ytgfofilkpaelnaa
