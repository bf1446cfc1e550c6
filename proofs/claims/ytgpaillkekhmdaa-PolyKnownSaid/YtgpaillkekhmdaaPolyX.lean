/- Contracts of package poly: check. -/
import Derived.RangeFuncBox
import Derived.Deep.RegionLaw
import Derived.Deep.RegionLawGrows
import Derived.Test.YtgpaillkekhmdaaSpanX
import Derived.Test.YtgpaillkekhmdaaPl
import Derived.Test.YtgpaillkekhmdaaSpanY
import Derived.ControlIn
import Derived.WalkMore
import Derived.RangeFuncLeaves
import Derived.Test.YtgpaillkekhmdaaSpanH
namespace Go.Proofs.Ytgpaillkekhmdaa
open Go.RowKit Mnc

/-- A slice of intervals that reads as a list. -/
structure SpSl (W : World) (ao : Option Addr) (cap : Nat) (l : List (Int × Int)) : Prop where
  le : l.length ≤ cap
  max : l.length ≤ 1000000000000
  cmax : cap ≤ 9223372036854775807
  isNil : ao = none → l.length = 0 ∧ cap = 0
  isSome : ∀ a, ao = some a → a = ⟨a.block, a.off, none⟩
  cells : ∀ a, ao = some a → ∀ j u, (flat l)[j]? = some u → W.cell? (a.add j) = some u
theorem SpSl.on {W W' : World} {ao : Option Addr} {cap : Nat} {l : List (Int × Int)} (h : SpSl W ao cap l) (k : Below W.heap.size W W') : SpSl W' ao cap l :=
  ⟨h.le, h.max, h.cmax, h.isNil, h.isSome, fun a ha j u hu => by
    have := h.cells a ha j u hu
    have hl : (a.add j).block < W.heap.size := by
      apply Nat.lt_of_not_le
      intro hn
      rw [World.cell?, Array.getElem?_eq_none hn] at this
      cases this
    rw [k.cell hl]
    exact this⟩

theorem spanInfo : (Try.prog.info? 33).map (fun i => (i.zero, i.size, i.bytes)) = some (some (.agg #[.int .i64 0, .int .i64 0]), 2, 16) := by kernel_rfl

theorem news2 (w : World) (o : Obj) (x y : Value) (t : TypeId) : ∀ (j : Nat) (u : Value), [x, y][j]? = some u → (((w.alloc o).alloc (.cells #[x, y] t)).drew).cell? ((⟨w.heap.size + 1, 0, none⟩ : Addr).add j) = some u := by
  intro j u h
  match j, h with
  | 0, h =>
    cases h
    simp [Addr.add]
  | 1, h =>
    cases h
    simp [Addr.add]
  | j + 2, h => simp at h

theorem add_plain (g off j : Nat) : (⟨g, off, none⟩ : Addr).add j = ⟨g, off + j, none⟩ := by
  unfold Addr.add
  split
  · rename_i h
    subst h
    rfl
  · rfl

/-- Where a loop over intervals in a block of the call's own stands. -/
structure ChAt (w W : World) (g : Nat) (L : List (Int × Int)) (k : Nat) : Prop where
  bel : Below w.heap.size w W
  lt : g < W.heap.size
  cells : ∀ j u, (flat L)[j]? = some u → W.cell? ((⟨g, 0, none⟩ : Addr).add j) = some u
  oks : ∀ c ∈ L.take k, okS c
theorem ChAt.next {w W W' : World} {g : Nat} {L : List (Int × Int)} {k : Nat} {c : Int × Int} (h : ChAt w W g L k) (hb : Below W.heap.size W W') (hc : L[k]? = some c) (ho : okS c) : ChAt w W' g L (k + 1) where
  bel := below_step h.bel hb
  lt := Nat.lt_of_lt_of_le h.lt hb.size
  cells := fun j u hu => (hb.cell (p := (⟨g, 0, none⟩ : Addr).add j) (by rw [add_plain]; exact h.lt)).trans (h.cells j u hu)
  oks := fun x hx => by
    rw [List.take_add_one, List.mem_append] at hx
    rcases hx with hx | hx
    · exact h.oks x hx
    · rw [hc] at hx
      simp at hx
      subst hx
      exact ho
theorem ChAt.at {w W : World} {g : Nat} {L : List (Int × Int)} {k : Nat} {c : Int × Int} (h : ChAt w W g L k) (hc : L[k]? = some c) : W.cell? ⟨g, k * 2, none⟩ = some (.int .i64 c.1) ∧ W.cell? ⟨g, k * 2 + 1, none⟩ = some (.int .i64 c.2) := by
  obtain ⟨h1, h2⟩ := flat_at L k c hc
  have a := h.cells _ _ h1
  have b := h.cells _ _ h2
  rw [add_plain, Nat.zero_add] at a b
  rw [Nat.mul_comm k 2]
  exact ⟨a, b⟩

set_option maxRecDepth 100000 in
set_option maxHeartbeats 1000000 in
theorem poly_check_some (l : List (Int × Int)) (s : Int × Int) (ab aoff cap : Nat) (w : World) (h : SpSl w (some ⟨ab, aoff, none⟩) cap l) (hl : ¬ 8 < l.length) :
    Calls Try.prog 19 #[.slice (some ⟨ab, aoff, none⟩) l.length cap, .agg #[.int .i64 s.1, .int .i64 s.2]] w fun e w' => e = .returned (.int .i64 (pChk l s)) ∧ Below w.heap.size w w' := by
  have hb : decide ((8 : Int) < (l.length : Int)) = false := by simp; omega
  obtain ⟨i0, hi, hz0, hz1, hz2⟩ := info_parts spanInfo
  have hle := h.le
  have hcap := h.cmax
  have HC : Hid (∀ W, Below w.heap.size w W → ∀ b, some (⟨ab, aoff, none⟩ : Addr) = some b → ∀ j u, (flat l)[j]? = some u → W.cell? (b.add j) = some u) := Lib.hid (fun W hb b e j u hu => by
    have h2 := h.cells b e j u hu
    have hl : (b.add j).block < w.heap.size := by
      apply Nat.lt_of_not_le
      intro hn
      rw [World.cell?, Array.getElem?_eq_none hn] at h2
      cases h2
    rw [hb.cell hl]
    exact h2)
  have HF := Lib.hid (flat_len l)
  have HL := Lib.hid (show ¬ 8 < l.length from hl)
  obtain ⟨n, hn⟩ : ∃ n, n = l.length := ⟨_, rfl⟩
  have HN := Lib.hid hn
  rw [← hn] at hle hl hb HF ⊢
  have hle2 : (n : Int) ≤ (cap : Int) := by omega
  have hn8 : (n : Int) ≤ 8 := by omega
  clear h hn
  go_enter Try.func19, Try.ntmps19
  go_wp2_with fail
  go_region_law (refine step_append_grows rfl (.tmp 16) (.tmp 18) 30 rfl 33 i0 (.agg #[.int .i64 0, .int .i64 0]) 2 16 Try.underlying30 hi hz0 hz1 hz2 rfl (by decide) (some ⟨ab, aoff, none⟩) n n (flat l) (by simp [Act.eval]) (fun h => by cases h) HF.out (HC.out _ (by exact (below_alloc (below_alloc (Below.refl _ _) _) _).drew)) ⟨w.heap.size + 1, 0, none⟩ 1 1 [.int .i64 s.1, .int .i64 s.2] (by simp [Act.eval]) rfl (news2 _ _ _ _ _) (flat_one_cell [s]) (by omega) (by unfold maxLen; omega) (by omega) ?_; intro v' w' hown hgrow; obtain ⟨g', cap', rfl⟩ := ownsRow_succ hown)
  have HO : Hid (ChAt w w' g' (l ++ [s]) 0) := Lib.hid (by
    have hb : Below w.heap.size w w' := (((below_alloc (below_alloc (Below.refl _ _) _) _).drew).grown hgrow (by simp; omega) (fun k e => by cases e))
    exact ⟨hb, (hown.lt g' rfl).2, fun j u hu => hown.cells rfl j u (by rw [flat_append] at hu; exact hu), fun c hc => by simp at hc⟩)
  clear hown hgrow
  obtain ⟨L, hL⟩ : ∃ L, L = l ++ [s] := ⟨_, rfl⟩
  have HM : Hid (∀ c, c ∈ L ↔ c ∈ l ∨ c = s) := Lib.hid (fun c => by rw [hL]; simp)
  have HLn : Hid (L.length = n + 1) := Lib.hid (by rw [hL]; simp [← HN.out])
  rw [← hL] at HO
  clear hL
  go_wp2_with fail
  go_simp
  go_loopw [21] (fun i wr => ∃ k : Nat, k ≤ n + 1 ∧ i = .int .i64 k ∧ Hid (ChAt w wr g' L k)) (fun i _ => n + 1 - (intOf i).toNat)
  case atStart => exact ⟨0, by omega, rfl, HO⟩
  case round =>
    obtain ⟨k, hk, rfl, HA⟩ := hrel
    rcases Nat.lt_or_ge k (n + 1) with hk' | hk'
    · obtain ⟨c, hc⟩ : ∃ c, L[k]? = some c := ⟨_, List.getElem?_eq_getElem (by rw [HLn.out]; exact hk')⟩
      obtain ⟨c0, c1⟩ := HA.out.at hc
      have HCk := Lib.hid hc
      clear hc
      by_cases ho : okS c
      · have H := Lib.hid ho
        clear ho
        go_wp2_with fail
        refine (span_Check_ok H.out _).mono ?_; rintro e w2 ⟨rfl, hbel⟩
        have HA2 := Lib.hid (HA.out.next (below_step (below_alloc (Below.refl _ _) _) hbel) HCk.out H.out)
        clear hbel c0 c1
        go_wp2_with fail
        go_roundw
        case rel => exact ⟨k + 1, by omega, by go_num, HA2⟩
        case measure => simp [intOf]; omega
      · have H := Lib.hid ho
        clear ho
        go_wp2_with fail
        refine (span_Check_bad H.out _).mono ?_; rintro e w2 ⟨rfl, hbel⟩
        have hB2 := below_step (below_alloc HA.out.bel _) hbel
        clear hbel c0 c1
        have HV : Hid (pChk l s = 20) := Lib.hid (pChk_bad HL.out (fun g => H.out (by
          rcases (HM.out c).1 (List.mem_of_getElem? HCk.out) with h | h
          · exact g.1 c h
          · rw [h]; exact g.2)))
        go_wp2_with fail
        go_ret
        exact ⟨ret_int HV.out.symm, hB2⟩
    · have HV : Hid (pChk l s = 0) := Lib.hid (by
        have ho : ∀ c ∈ L, okS c := fun c hc => HA.out.oks c (by rw [List.take_of_length_le (by rw [HLn.out]; exact hk')]; exact hc)
        exact pChk_ok HL.out (fun c hc => ho c ((HM.out c).2 (.inl hc))) (ho s ((HM.out s).2 (.inr rfl))))
      obtain rfl : k = n + 1 := by omega
      go_wp2_with fail
      go_ret
      exact ⟨ret_int HV.out.symm, HA.out.bel⟩

set_option maxRecDepth 100000 in
set_option maxHeartbeats 1000000 in
theorem poly_check_none (s : Int × Int) (w : World) :
    Calls Try.prog 19 #[.slice none 0 0, .agg #[.int .i64 s.1, .int .i64 s.2]] w fun e w' => e = .returned (.int .i64 (pChk [] s)) ∧ Below w.heap.size w w' := by
  obtain ⟨i0, hi, hz0, hz1, hz2⟩ := info_parts spanInfo
  obtain ⟨l, hl⟩ : ∃ l : List (Int × Int), l = [] := ⟨_, rfl⟩
  rw [← hl]
  have HC : Hid (∀ W, Below w.heap.size w W → ∀ b, (none : Option Addr) = some b → ∀ j u, (flat l)[j]? = some u → W.cell? (b.add j) = some u) := Lib.hid (fun _ _ _ e => by cases e)
  have HF : Hid ((flat l).length = 0 * 2) := Lib.hid (by rw [hl]; rfl)
  have HL : Hid (¬ 8 < l.length) := Lib.hid (by rw [hl]; simp)
  have HN : Hid (0 = l.length) := Lib.hid (by rw [hl]; rfl)
  clear hl
  go_enter Try.func19, Try.ntmps19
  go_wp2_with fail
  go_region_law (refine step_append_grows rfl (.tmp 16) (.tmp 18) 30 rfl 33 i0 (.agg #[.int .i64 0, .int .i64 0]) 2 16 Try.underlying30 hi hz0 hz1 hz2 rfl (by decide) none 0 0 (flat l) (by simp [Act.eval]) (fun _ => ⟨rfl, rfl⟩) HF.out (HC.out _ (by exact (below_alloc (below_alloc (Below.refl _ _) _) _).drew)) ⟨w.heap.size + 1, 0, none⟩ 1 1 [.int .i64 s.1, .int .i64 s.2] (by simp [Act.eval]) rfl (news2 _ _ _ _ _) (flat_one_cell [s]) (by omega) (by unfold maxLen; omega) (by omega) ?_; intro v' w' hown hgrow; obtain ⟨g', cap', rfl⟩ := ownsRow_succ hown)
  have HO : Hid (ChAt w w' g' (l ++ [s]) 0) := Lib.hid (by
    have hb : Below w.heap.size w w' := (((below_alloc (below_alloc (Below.refl _ _) _) _).drew).grown hgrow (by simp; omega) (fun k e => by cases e))
    exact ⟨hb, (hown.lt g' rfl).2, fun j u hu => hown.cells rfl j u (by rw [flat_append] at hu; exact hu), fun c hc => by simp at hc⟩)
  clear hown hgrow
  obtain ⟨L, hL⟩ : ∃ L, L = l ++ [s] := ⟨_, rfl⟩
  have HM : Hid (∀ c, c ∈ L ↔ c ∈ l ∨ c = s) := Lib.hid (fun c => by rw [hL]; simp)
  have HLn : Hid (L.length = 0 + 1) := Lib.hid (by rw [hL]; simp [← HN.out])
  rw [← hL] at HO
  clear hL
  go_wp2_with fail
  go_simp
  go_loopw [21] (fun i wr => ∃ k : Nat, k ≤ 0 + 1 ∧ i = .int .i64 k ∧ Hid (ChAt w wr g' L k)) (fun i _ => 0 + 1 - (intOf i).toNat)
  case atStart => exact ⟨0, by omega, rfl, HO⟩
  case round =>
    obtain ⟨k, hk, rfl, HA⟩ := hrel
    rcases Nat.lt_or_ge k (0 + 1) with hk' | hk'
    · obtain ⟨c, hc⟩ : ∃ c, L[k]? = some c := ⟨_, List.getElem?_eq_getElem (by rw [HLn.out]; exact hk')⟩
      obtain ⟨c0, c1⟩ := HA.out.at hc
      have HCk := Lib.hid hc
      clear hc
      by_cases ho : okS c
      · have H := Lib.hid ho
        clear ho
        go_wp2_with fail
        refine (span_Check_ok H.out _).mono ?_; rintro e w2 ⟨rfl, hbel⟩
        have HA2 := Lib.hid (HA.out.next (below_step (below_alloc (Below.refl _ _) _) hbel) HCk.out H.out)
        clear hbel c0 c1
        go_wp2_with fail
        go_roundw
        case rel => exact ⟨k + 1, by omega, by go_num, HA2⟩
        case measure => simp [intOf]; omega
      · have H := Lib.hid ho
        clear ho
        go_wp2_with fail
        refine (span_Check_bad H.out _).mono ?_; rintro e w2 ⟨rfl, hbel⟩
        have hB2 := below_step (below_alloc HA.out.bel _) hbel
        clear hbel c0 c1
        have HV : Hid (pChk l s = 20) := Lib.hid (pChk_bad HL.out (fun g => H.out (by
          rcases (HM.out c).1 (List.mem_of_getElem? HCk.out) with h | h
          · exact g.1 c h
          · rw [h]; exact g.2)))
        go_wp2_with fail
        go_ret
        exact ⟨ret_int HV.out.symm, hB2⟩
    · have HV : Hid (pChk l s = 0) := Lib.hid (by
        have ho : ∀ c ∈ L, okS c := fun c hc => HA.out.oks c (by rw [List.take_of_length_le (by rw [HLn.out]; exact hk')]; exact hc)
        exact pChk_ok HL.out (fun c hc => ho c ((HM.out c).2 (.inl hc))) (ho s ((HM.out s).2 (.inr rfl))))
      obtain rfl : k = 0 + 1 := by omega
      go_wp2_with fail
      go_ret
      exact ⟨ret_int HV.out.symm, HA.out.bel⟩

set_option maxHeartbeats 1000000 in
theorem poly_check (l : List (Int × Int)) (s : Int × Int) (ao : Option Addr) (cap : Nat) (w : World) (h : SpSl w ao cap l) :
    Calls Try.prog 19 #[.slice ao l.length cap, .agg #[.int .i64 s.1, .int .i64 s.2]] w fun e w' => e = .returned (.int .i64 (pChk l s)) ∧ Below w.heap.size w w' := by
  by_cases hl : 8 < l.length
  · rw [pChk_long hl]
    have hb : decide ((8 : Int) < (l.length : Int)) = true := by simp; omega
    clear hl
    go_enter Try.func19, Try.ntmps19
    go_wp2
    go_ret
    exact ⟨rfl, below_alloc (Below.refl _ _) _⟩
  · cases ao with
    | none =>
      obtain ⟨hl0, hc0⟩ := h.isNil rfl
      obtain rfl : l = [] := List.eq_nil_of_length_eq_zero hl0
      subst hc0
      exact poly_check_none s w
    | some a =>
      have ha := h.isSome a rfl
      obtain ⟨ab, aoff, ax⟩ := a
      cases ha
      exact poly_check_some l s ab aoff cap w h hl
end Go.Proofs.Ytgpaillkekhmdaa

/- Contracts of package poly: the closure of value; down and its iterator. -/
namespace Go.Proofs.Ytgpaillkekhmdaa
open Go.RowKit Go.Shelf Mnc
attribute [local go_sem] Oper.semAt_some

/-- What extend leaves: the value and the error, all else as it was. -/
structure Ext (w w' : World) (Bv Be : Nat) (r : (Int × Int) × Int) : Prop where
  keep : KeepsOthers w w'
  bel : ∀ n, n ≤ Bv → n ≤ Be → n ≤ w.heap.size → Below n w w'
  bv : w'.heap[Bv]? = some (.cells #[.int .i64 r.1.1, .int .i64 r.1.2] 33 (0, 0))
  be : w'.heap[Be]? = some (.cells #[.int .i64 r.2] 39 (0, 0))
  oth : ∀ k, k < w.heap.size → k ≠ Bv → k ≠ Be → w'.heap[k]? = w.heap[k]?

theorem set2_at {w : World} {B : Nat} {x y u v : Int} {t : TypeId} (h : w.heap[B]? = some (.cells #[.int .i64 x, .int .i64 y] t (0, 0))) : ((w.setCell ⟨B, 0, none⟩ (.int .i64 u)).setCell ⟨B, 1, none⟩ (.int .i64 v)).heap[B]? = some (.cells #[.int .i64 u, .int .i64 v] t (0, 0)) := by
  rw [heap_setCell_same _ _ _ _ _ _ (heap_setCell_same _ _ _ _ _ _ h)]; rfl
theorem set1_at {w : World} {B : Nat} {x u : Int} {t : TypeId} (h : w.heap[B]? = some (.cells #[.int .i64 x] t (0, 0))) : (w.setCell ⟨B, 0, none⟩ (.int .i64 u)).heap[B]? = some (.cells #[.int .i64 u] t (0, 0)) := by
  rw [heap_setCell_same _ _ _ _ _ _ h]; rfl

theorem Ext.put {w w1 : World} {Bv Be : Nat} {r0 : (Int × Int) × Int} (hne : Bv ≠ Be) (hbv : w1.heap[Bv]? = some (.cells #[.int .i64 r0.1.1, .int .i64 r0.1.2] 33 (0, 0))) (hbe : w1.heap[Be]? = some (.cells #[.int .i64 r0.2] 39 (0, 0)))
    (keep : KeepsOthers w w1) (bel : ∀ n, n ≤ Bv → n ≤ Be → n ≤ w.heap.size → Below n w w1) (oth : ∀ k, k < w.heap.size → k ≠ Bv → k ≠ Be → w1.heap[k]? = w.heap[k]?) (r : (Int × Int) × Int) :
    Ext w (((w1.setCell ⟨Bv, 0, none⟩ (.int .i64 r.1.1)).setCell ⟨Bv, 1, none⟩ (.int .i64 r.1.2)).setCell ⟨Be, 0, none⟩ (.int .i64 r.2)) Bv Be r where
  keep := ((keep.trans (KeepsOthers.setCell _ _ _)).trans (KeepsOthers.setCell _ _ _)).trans (KeepsOthers.setCell _ _ _)
  bel := fun n h1 h2 h3 => (((bel n h1 h2 h3).setCell h1 _).setCell h1 _).setCell h2 _
  bv := by rw [heap_setCell_other _ _ _ _ (by simp; omega)]; exact set2_at hbv
  be := by
    refine set1_at (x := r0.2) ?_
    rw [heap_setCell_other _ _ _ _ (by simp; omega), heap_setCell_other _ _ _ _ (by simp; omega)]
    exact hbe
  oth := fun k h1 h2 h3 => by
    rw [heap_setCell_other _ _ _ _ (by simp; omega), heap_setCell_other _ _ _ _ (by simp; omega), heap_setCell_other _ _ _ _ (by simp; omega)]
    exact oth k h1 h2 h3

theorem pStep_ok {s v c : Int × Int} (h : (sMul v s).2 = 0) : pStep s v c = sAdd (sMul v s).1 c := if_pos h
theorem pStep_bad {s v c : Int × Int} (h : ¬ (sMul v s).2 = 0) : pStep s v c = sMul v s := if_neg h

set_option maxRecDepth 100000 in
set_option maxHeartbeats 1000000 in
theorem poly_extend (s v c : Int × Int) (e0 : Int) (w : World) (Bv Bs Be : Nat) (h1 : Bv ≠ Be) (hv : w.heap[Bv]? = some (.cells #[.int .i64 v.1, .int .i64 v.2] 33 (0, 0))) (hs : w.heap[Bs]? = some (.cells #[.int .i64 s.1, .int .i64 s.2] 33 (0, 0))) (he : w.heap[Be]? = some (.cells #[.int .i64 e0] 39 (0, 0))) :
    Calls Try.prog 25 #[.agg #[.int .i64 c.1, .int .i64 c.2], .pointer (some ⟨Bv, 0, none⟩), .pointer (some ⟨Bs, 0, none⟩), .pointer (some ⟨Be, 0, none⟩)] w fun e w' => (∃ v, e = .returned v) ∧ Ext w w' Bv Be (pStep s v c) := by
  have lv := lt_of_block hv
  have ls := lt_of_block hs
  have le := lt_of_block he
  have hc := heap_at (w := w) (.cells #[.int .i64 c.1, .int .i64 c.2] 33) rfl
  have hv1 := heap_up (.cells #[.int .i64 c.1, .int .i64 c.2] 33) hv
  have hs1 := heap_up (.cells #[.int .i64 c.1, .int .i64 c.2] 33) hs
  have he1 := heap_up (.cells #[.int .i64 c.1, .int .i64 c.2] 33) he
  have hb1 := below_alloc (Below.refl w.heap.size w) (.cells #[.int .i64 c.1, .int .i64 c.2] 33)
  have v0 := cell_two0 hv1
  have v1 := cell_two1 hv1
  have s0 := cell_two0 hs1
  have s1 := cell_two1 hs1
  have H1 := Lib.hid h1
  have Lv := Lib.hid lv
  have Ls := Lib.hid ls
  have Le := Lib.hid le
  have HC := Lib.hid hc
  have HV1 := Lib.hid hv1
  have HE1 := Lib.hid he1
  have n1 : ¬ Bv = Be := h1
  have n2 : ¬ Be = Bv := fun h => h1 h.symm
  have n3 : ¬ w.heap.size = Bv := by omega
  have n4 : ¬ w.heap.size = Be := by omega
  have n5 : ¬ Bv = w.heap.size := by omega
  have n6 : ¬ Be = w.heap.size := by omega
  clear hv hs he hs1 lv ls le h1 hc hv1 he1
  obtain ⟨m, hm⟩ : ∃ m, m = sMul v s := ⟨_, rfl⟩
  have HM := Lib.hid (fun W => span_Mul v s W)
  rw [← hm] at HM
  by_cases hz : m.2 = 0
  · have HR : Hid (pStep s v c = sAdd m.1 c) := Lib.hid (by rw [hm] at hz; rw [pStep_ok hz, ← hm])
    have HZ := Lib.hid hz
    rw [hz] at HM
    have HA := Lib.hid (fun W => span_Add m.1 c W)
    rw [← HR.out] at HA
    clear hz hm
    go_enter Try.func25, Try.ntmps25
    go_wp2_with fail
    refine (HM.out _).mono ?_; rintro e w2 ⟨rfl, hbel⟩
    have hb2 := below_step hb1 hbel
    have HV2 := (hbel.block _ (lt_of_block HV1.out)).trans HV1.out
    have HE2 := (hbel.block _ (lt_of_block HE1.out)).trans HE1.out
    have HC2 := (hbel.block _ (lt_of_block HC.out)).trans HC.out
    clear v0 v1 s0 s1 hb1 hbel
    have v0 := cell_two0 HV2
    have v1 := cell_two1 HV2
    have e0' := cell_of_one HE2
    have f0 := free_two (i := 0) HV2
    have f1 := free_two (i := 1) HV2
    have fe := free_of_one HE2
    have c0 := cell_two0 HC2
    have c1 := cell_two1 HC2
    have lv2 := lt_of_block HV2
    have le2 := lt_of_block HE2
    have hX := Ext.put (r0 := (v, e0)) H1.out HV2 HE2 (keeps_of_below hb2) (fun n _ _ h3 => hb2.mono h3) (fun k hk _ _ => hb2.block k hk) (m.1, 0)
    have HV2 := Lib.hid HV2
    have HE2 := Lib.hid HE2
    have HC2 := Lib.hid HC2
    go_wp2_with fail
    generalize (((w2.setCell ⟨Bv, 0, none⟩ (.int .i64 m.1.1)).setCell ⟨Bv, 1, none⟩ (.int .i64 m.1.2)).setCell ⟨Be, 0, none⟩ (.int .i64 0)) = W3 at *
    refine (HA.out _).mono ?_; rintro e w4 ⟨rfl, hbel⟩
    have HV4 := (hbel.block _ (lt_of_block hX.bv)).trans hX.bv
    have HE4 := (hbel.block _ (lt_of_block hX.be)).trans hX.be
    have hY := Ext.put (r0 := (m.1, 0)) H1.out HV4 HE4 (hX.keep.trans (keeps_of_below hbel)) (fun n h1 h2 h3 => (hX.bel n h1 h2 h3).trans (hbel.mono (Nat.le_trans h3 hX.keep.size))) (fun k hk h1 h2 => (hbel.block k (Nat.lt_of_lt_of_le hk hX.keep.size)).trans (hX.oth k hk h1 h2)) (pStep s v c)
    clear v0 v1 e0' f0 f1 fe c0 c1 lv2 le2 hX hbel
    have v0 := cell_two0 HV4
    have v1 := cell_two1 HV4
    have e0' := cell_of_one HE4
    have f0 := free_two (i := 0) HV4
    have f1 := free_two (i := 1) HV4
    have fe := free_of_one HE4
    have HV4 := Lib.hid HV4
    have HE4 := Lib.hid HE4
    go_wp2_with fail
    go_end0
    exact ⟨⟨_, rfl⟩, hY⟩
  · have HR : Hid (pStep s v c = m) := Lib.hid (by rw [hm] at hz; rw [pStep_bad hz, ← hm])
    rw [HR.out]
    have hz2 : (m.2 == 0) = false := by simp [hz]
    clear hz hm
    go_enter Try.func25, Try.ntmps25
    go_wp2_with fail
    refine (HM.out _).mono ?_; rintro e w2 ⟨rfl, hbel⟩
    have hb2 := below_step hb1 hbel
    have HV2 := (hbel.block _ (lt_of_block HV1.out)).trans HV1.out
    have HE2 := (hbel.block _ (lt_of_block HE1.out)).trans HE1.out
    clear v0 v1 s0 s1 hb1 hbel
    have v0 := cell_two0 HV2
    have v1 := cell_two1 HV2
    have e0' := cell_of_one HE2
    have f0 := free_two (i := 0) HV2
    have f1 := free_two (i := 1) HV2
    have fe := free_of_one HE2
    have hX := Ext.put (r0 := (v, e0)) H1.out HV2 HE2 (keeps_of_below hb2) (fun n _ _ h3 => hb2.mono h3) (fun k hk _ _ => hb2.block k hk) m
    have HV2 := Lib.hid HV2
    have HE2 := Lib.hid HE2
    go_wp2_with fail
    go_end0
    exact ⟨⟨_, rfl⟩, hX⟩

theorem poly_down (v : Value) (w : World) (hv : ∃ ao n c, v = .slice ao n c) :
    Calls Try.prog 28 #[v] w fun e w' => e = .returned (.func (.func 36) #[] #[.pointer (some ⟨w.heap.size, 0, none⟩)]) ∧ w.alloc (.cells #[v] 30) = w' := by
  obtain ⟨ao, n, c, rfl⟩ := hv
  go_enter Try.func28, Try.ntmps28
  go_wp2
  go_ret
  exact ⟨rfl, rfl⟩

def encS (x : Int × Int) : Array Value := #[.agg #[.int .i64 x.1, .int .i64 x.2]]
/-- What a round must keep: what lay below, and the box of the slice. -/
def KeepD (n₀ A : Nat) (W W' : World) : Prop := Below n₀ W W' ∧ W'.heap[A]? = W.heap[A]?
theorem KeepD.trans {n₀ A : Nat} {U V W : World} (h : KeepD n₀ A U V) (k : KeepD n₀ A V W) : KeepD n₀ A U W := ⟨h.1.trans k.1, k.2.trans h.2⟩

theorem SpSl.below {W W' : World} {ao : Option Addr} {cap n₀ : Nat} {l : List (Int × Int)} (h : SpSl W ao cap l) (hlt : ∀ a, ao = some a → l ≠ [] → a.block < n₀) (k : Below n₀ W W') : SpSl W' ao cap l :=
  ⟨h.le, h.max, h.cmax, h.isNil, h.isSome, fun a ha j u hu => by
    have h2 := h.cells a ha j u hu
    have hl : l ≠ [] := by rintro rfl; simp [flat] at hu
    have hb : (a.add j).block < n₀ := by
      have := hlt a ha hl
      have e := h.isSome a ha
      rw [e, add_plain]
      exact this
    rw [k.cell hb]
    exact h2⟩
theorem SpSl.at {W : World} {b off cap i : Nat} {l : List (Int × Int)} {c : Int × Int} (h : SpSl W (some ⟨b, off, none⟩) cap l) (hc : l[i]? = some c) : W.cell? ⟨b, off + i * 2, none⟩ = some (.int .i64 c.1) ∧ W.cell? ⟨b, off + i * 2 + 1, none⟩ = some (.int .i64 c.2) := by
  obtain ⟨h1, h2⟩ := flat_at l i c hc
  have a := h.cells _ rfl _ _ h1
  have b := h.cells _ rfl _ _ h2
  rw [add_plain] at a b
  rw [Nat.mul_comm i 2]
  exact ⟨a, b⟩

set_option maxRecDepth 100000 in
set_option maxHeartbeats 2000000 in
theorem down_some (l : List (Int × Int)) (b off cap : Nat) (n : Nat) (hn : 1 ≤ n) (n₀ A : Nat) (w : World) (hA : w.heap[A]? = some (.cells #[.slice (some ⟨b, off, none⟩) l.length cap] 30 (0, 0)))
    (hl : SpSl w (some ⟨b, off, none⟩) cap l) (hlt : l ≠ [] → b < n₀) :
    SeqStopsK Fence.wide n Try.prog 36 #[.pointer (some ⟨A, 0, none⟩)] encS (KeepD n₀ A) (fun xs => xs = l.reverse) (fun pre => pre <+: l.reverse) l.length w := fun lp J Jx W hW hJ hJx hY h0 => by
  have hA := (hW.block _ (lt_of_block hA)).trans hA
  have hl := hl.on hW
  have hle := hl.le
  have hmax := hl.max
  have HLT : Hid (∀ a, some (⟨b, off, none⟩ : Addr) = some a → l ≠ [] → a.block < n₀) := Lib.hid (fun a e h => by cases e; exact hlt h)
  have HRL : Hid (l.reverse.length = l.length) := Lib.hid (by simp)
  obtain ⟨N, hN⟩ : ∃ N, N = l.length := ⟨_, rfl⟩
  have HN := Lib.hid hN
  rw [← hN] at hA hle hmax hY HRL
  have a0 := cell_of_one hA
  have HA := Lib.hid hA
  have HL := Lib.hid hl
  clear hA hl hlt hN
  refine callsIn_of_wp Try.func36 rfl trivial ?_ rfl
  simp only [Try.ntmps36, List.size_toArray, List.length_cons, List.length_nil, Nat.reduceAdd, Nat.reduceSub, Array.replicate_succ, Array.replicate_zero, List.push_toArray, List.append_toArray, List.nil_append, List.cons_append]
  gi_wp2
  gi_loopw [3] (fun i wr => ∃ k : Nat, k ≤ N ∧ i = .int .i64 ((k : Int) - 1) ∧ Hid (J (l.reverse.take (N - k)) wr) ∧ Hid (SpSl wr (some ⟨b, off, none⟩) cap l) ∧ Hid (wr.heap[A]? = some (.cells #[.slice (some ⟨b, off, none⟩) N cap] 30 (0, 0)))) (fun i _ => (intOf i + 1).toNat)
  case atStart => exact ⟨N, Nat.le_refl _, rfl, Lib.hid (by simpa using h0), HL, HA⟩
  case round =>
    clear a0
    obtain ⟨k, hk, rfl, HJ, HL2, HA2⟩ := hrel
    rcases Nat.eq_zero_or_pos k with rfl | hk0
    · gi_wp2
      go_end0
      exact ⟨⟨_, rfl⟩, .inl ⟨_, rfl, by have := HJ.out; rwa [Nat.sub_zero, List.take_of_length_le (by rw [HRL.out]; exact Nat.le_refl _)] at this⟩⟩
    · obtain ⟨j, rfl⟩ : ∃ j, k = j + 1 := ⟨k - 1, by omega⟩
      rw [show (((j + 1 : Nat) : Int) - 1) = (j : Int) by omega]
      obtain ⟨c, hc⟩ : ∃ c, l[j]? = some c := ⟨_, List.getElem?_eq_getElem (by rw [← HN.out]; omega)⟩
      obtain ⟨c0, c1⟩ := HL2.out.at hc
      have a0 := cell_of_one HA2.out
      have HNX : Hid (l.reverse.take (N - j) = l.reverse.take (N - (j + 1)) ++ [c]) := Lib.hid (by
        have e : N - j = N - (j + 1) + 1 := by omega
        rw [e, List.take_add_one]
        congr 1
        have h2 : l.reverse[N - (j + 1)]? = some c := by
          rw [List.getElem?_reverse (by rw [← HN.out]; omega), ← HN.out]
          rw [show N - 1 - (N - (j + 1)) = j by omega]
          exact hc
        rw [h2]
        rfl)
      have HP : Hid (l.reverse.take (N - (j + 1)) ++ [c] <+: l.reverse) := Lib.hid (by rw [← HNX.out]; exact List.take_prefix _ _)
      obtain ⟨fn, tmps, assign, body, hy, hR⟩ := hY _ c wr HJ.out (by simp; omega)
      dsimp only [encS] at hy
      clear hc
      gi_wp2
      refine hR.mono ?_
      rintro e W3 (⟨rfl, hJ3, hk3⟩ | ⟨rfl, hJx3⟩)
      · have HJ3 := Lib.hid hJ3
        have HL3 := Lib.hid (HL2.out.below HLT.out hk3.1)
        have HA3 := Lib.hid (hk3.2.trans HA2.out)
        clear hJ3 hk3 c0 c1 a0
        gi_wp2
        go_roundw
        case rel => first | exact ⟨j, by omega, rfl, Lib.hid (by rw [HNX.out]; exact HJ3.out), HL3, HA3⟩ | ((repeat apply Exists.intro); exact ⟨⟨j, by omega, rfl, Lib.hid (by rw [HNX.out]; exact HJ3.out), HL3, HA3⟩, rfl⟩)
        case measure => simp [intOf]
      · have HJ3 := Lib.hid hJx3
        clear hJx3 c0 c1 a0
        gi_wp2
        refine bodyPost_ret (results_none rfl _ _ _) rfl ?_
        exact ⟨⟨_, rfl⟩, .inr ⟨_, HP.out, HJ3.out⟩⟩

set_option maxRecDepth 100000 in
set_option maxHeartbeats 2000000 in
theorem down_none (n : Nat) (n₀ A : Nat) (w : World) (hA : w.heap[A]? = some (.cells #[.slice none 0 0] 30 (0, 0))) :
    SeqStopsK Fence.wide n Try.prog 36 #[.pointer (some ⟨A, 0, none⟩)] encS (KeepD n₀ A) (fun xs => xs = ([] : List (Int × Int)).reverse) (fun pre => pre <+: ([] : List (Int × Int)).reverse) 0 w := fun lp J Jx W hW hJ hJx hY h0 => by
  have hA := (hW.block _ (lt_of_block hA)).trans hA
  have a0 := cell_of_one hA
  clear hA hY
  refine callsIn_of_wp Try.func36 rfl trivial ?_ rfl
  simp only [Try.ntmps36, List.size_toArray, List.length_cons, List.length_nil, Nat.reduceAdd, Nat.reduceSub, Array.replicate_succ, Array.replicate_zero, List.push_toArray, List.append_toArray, List.nil_append, List.cons_append]
  gi_wp2
  gi_loopw [3] (fun i wr => i = .int .i64 (-1) ∧ Hid (J [] wr)) (fun i _ => (intOf i + 1).toNat)
  case atStart => exact ⟨rfl, Lib.hid h0⟩
  case round =>
    clear a0
    obtain ⟨rfl, HJ⟩ := hrel
    gi_wp2
    go_end0
    exact ⟨⟨_, rfl⟩, .inl ⟨_, rfl, HJ.out⟩⟩

theorem down_in (l : List (Int × Int)) (ao : Option Addr) (cap : Nat) (n : Nat) (hn : 1 ≤ n) (n₀ A : Nat) (w : World) (hA : w.heap[A]? = some (.cells #[.slice ao l.length cap] 30 (0, 0)))
    (hl : SpSl w ao cap l) (hlt : ∀ a, ao = some a → l ≠ [] → a.block < n₀) :
    SeqStopsK Fence.wide n Try.prog 36 #[.pointer (some ⟨A, 0, none⟩)] encS (KeepD n₀ A) (fun xs => xs = l.reverse) (fun pre => pre <+: l.reverse) l.length w := by
  cases ao with
  | none =>
    obtain ⟨h0, hc⟩ := hl.isNil rfl
    obtain rfl : l = [] := List.eq_nil_of_length_eq_zero h0
    subst hc
    exact down_none n n₀ A w hA
  | some a =>
    have ha := hl.isSome a rfl
    obtain ⟨b, off, ax⟩ := a
    cases ha
    exact down_some l b off cap n hn n₀ A w hA hl (fun h => hlt _ rfl h)
end Go.Proofs.Ytgpaillkekhmdaa

/- A scope whose labels no jump takes, inside a fence: the rule that the fenced walk lacks. -/
namespace Go.Proofs.Ytgpaillkekhmdaa
open Go

section
variable {F : Fence} {n : Nat} {P : Program} {Q : Exit → Act → World → Prop} {a : Act} {w : World}

theorem stepR_scope {b : Frame} {k : List Item} {cs : List Frame} {c : Code} : step P (lone (b.atR a (.code (.scope c) :: k)) cs w) = .next (lone (b.atR a (.code c :: .inScope c :: k)) cs w) :=
  step_lone_go (by simp [stepG, stepG.exec, Frame.atR])
theorem stepR_inScope {b : Frame} {k : List Item} {cs : List Frame} {c : Code} : step P (lone (b.atR a (.inScope c :: k)) cs w) = .next (lone (b.atR a k) cs w) :=
  step_lone_go (by simp [stepG, stepG.exec, Frame.atR])

theorem wpIn_scope_straight {c : Code} (h : c.wpIn F n P (Exit.noGoto Q) a w) : (Code.scope c).wpIn F n P Q a w := by
  intro b k cs hro hb hr
  have h0 : (lone (b.atR a (.code (.scope c) :: k)) cs w).fenced P F := fenced_calm hb hr rfl
  obtain ⟨e, a₁, w₁, hq, harr⟩ := h b (.inScope c :: k) cs hro hb hr
  cases e with
  | normal => exact ⟨.normal, a₁, w₁, hq, .head h0 stepR_scope (StepsIn.trans harr (.one (fenced_calm hb hr rfl) stepR_inScope))⟩
  | exit id =>
    have hx : exitTo id (.inScope c :: k) = exitTo id k := by simp [exitTo]
    exact ⟨.exit id, a₁, w₁, hq, fun k' hk => .head h0 stepR_scope (harr.1 k' (by rw [hx]; exact hk)),
      fun hr' hk => let ⟨k₁, h1, h2⟩ := harr.2 hr' (by rw [hx]; exact hk); ⟨k₁, h1, .head h0 stepR_scope h2⟩⟩
  | goto l => exact hq.elim
  | ret => exact ⟨_, a₁, w₁, hq, .of_steps (.one h0 stepR_scope) harr⟩
  | panic ch => exact ⟨_, a₁, w₁, hq, .of_steps (.one h0 stepR_scope) harr⟩
  | outgrown => exact ⟨_, a₁, w₁, hq, .of_steps (.one h0 stepR_scope) harr⟩
end
end Go.Proofs.Ytgpaillkekhmdaa

/- Contracts of package poly: value, Eval. Printed by wip/genPC.py. -/
namespace Go.Proofs.Ytgpaillkekhmdaa
open Go.RowKit Go.Shelf Mnc
attribute [local go_sem] Oper.semAt_some

theorem pAcc_err {s : Int × Int} {r : List (Int × Int)} (h : ¬ (pAcc s r).2 = 0) : ∀ m, pAcc s (m ++ r) = pAcc s r
  | [] => rfl
  | c :: m => by
    have ih := pAcc_err h m
    show (if (pAcc s (m ++ r)).2 = 0 then pStep s (pAcc s (m ++ r)).1 c else pAcc s (m ++ r)) = _
    rw [ih, if_neg h]
theorem pAcc_prefix {s : Int × Int} {l pre : List (Int × Int)} (hp : pre <+: l.reverse) (h : ¬ (pAcc s pre.reverse).2 = 0) : pAcc s l = pAcc s pre.reverse := by
  obtain ⟨t, ht⟩ := hp
  have e : l = t.reverse ++ pre.reverse := by
    rw [← List.reverse_append, ht, List.reverse_reverse]
  rw [e]
  exact pAcc_err h _
theorem pAcc_snoc {s x : Int × Int} {pre : List (Int × Int)} (h : (pAcc s pre.reverse).2 = 0) : pAcc s (pre ++ [x]).reverse = pStep s (pAcc s pre.reverse).1 x := by
  rw [List.reverse_append]
  show (if (pAcc s pre.reverse).2 = 0 then pStep s (pAcc s pre.reverse).1 x else pAcc s pre.reverse) = _
  rw [if_pos h]

/-- The boxes of value. -/
structure VlB (w W : World) (s : Int × Int) (r v : (Int × Int) × Int) : Prop where
  bel : Below w.heap.size w W
  sz : w.heap.size + 6 ≤ W.heap.size
  k0 : W.heap[w.heap.size]? = some (.cells #[.int .i64 s.1, .int .i64 s.2] 33 (0, 0))
  k1 : W.heap[w.heap.size + 1]? = some (.cells #[.int .i64 r.1.1, .int .i64 r.1.2] 33 (0, 0))
  k2 : W.heap[w.heap.size + 1 + 1]? = some (.cells #[.int .i64 v.1.1, .int .i64 v.1.2] 33 (0, 0))
  k3 : W.heap[w.heap.size + 1 + 1 + 1]? = some (.cells #[.int .i64 v.2] 39 (0, 0))
  k4 : W.heap[w.heap.size + 1 + 1 + 1 + 1]? = some (.cells #[.func (.func 25) #[] #[.pointer (some ⟨w.heap.size + 1 + 1, 0, none⟩), .pointer (some ⟨w.heap.size, 0, none⟩), .pointer (some ⟨w.heap.size + 1 + 1 + 1, 0, none⟩)]] 55 (0, 0))
theorem VlB.on {w W W' : World} {s : Int × Int} {r v : (Int × Int) × Int} (h : VlB w W s r v) (k : Below W.heap.size W W') : VlB w W' s r v :=
  ⟨below_step h.bel k, Nat.le_trans h.sz k.size, (k.block _ (lt_of_block h.k0)).trans h.k0, (k.block _ (lt_of_block h.k1)).trans h.k1, (k.block _ (lt_of_block h.k2)).trans h.k2, (k.block _ (lt_of_block h.k3)).trans h.k3, (k.block _ (lt_of_block h.k4)).trans h.k4⟩
theorem VlB.grown {w W W' : World} {s : Int × Int} {r v : (Int × Int) × Int} {row : Option Nat} {B : Nat} (h : VlB w W s r v) (hB : w.heap.size ≤ B) (hg : W.grownBy W' row) (hr : ∀ r, row = some r → B ≤ r ∧ ∃ o : Obj, W.heap[r]? = some o ∧ o.isCells = false) : VlB w W' s r v :=
  have hr' := fun r e => (hr r e).2
  ⟨h.bel.grown hg h.bel.size (fun k e => Nat.le_trans hB (hr k e).1), Nat.le_trans h.sz hg.size, block_kept h.k0 hg hr', block_kept h.k1 hg hr', block_kept h.k2 hg hr', block_kept h.k3 hg hr', block_kept h.k4 hg hr'⟩
theorem VlB.ext {w W W' : World} {s : Int × Int} {r v u : (Int × Int) × Int} (h : VlB w W s r v) (k : Ext W W' (w.heap.size + 1 + 1) (w.heap.size + 1 + 1 + 1) u) : VlB w W' s r u :=
  ⟨h.bel.trans (k.bel _ (by omega) (by omega) (by have := h.sz; omega)), Nat.le_trans h.sz k.keep.size, (k.oth _ (lt_of_block h.k0) (by omega) (by omega)).trans h.k0, (k.oth _ (lt_of_block h.k1) (by omega) (by omega)).trans h.k1, k.bv, k.be, (k.oth _ (lt_of_block h.k4) (by omega) (by omega)).trans h.k4⟩
theorem VlB.told {w W : World} {s : Int × Int} {r v : (Int × Int) × Int} (h : VlB w W s r v) (x y : Int) (z : Int) : VlB w ((W.setCell ⟨w.heap.size + 1, 0, none⟩ (.int .i64 x)).setCell ⟨w.heap.size + 1, 1, none⟩ (.int .i64 y)) s ((x, y), z) v :=
  ⟨below_set2 h.bel (by omega) _ _, by simp; exact h.sz, by rw [oth_set (by omega), oth_set (by omega)]; exact h.k0, set2_at h.k1, by rw [oth_set (by omega), oth_set (by omega)]; exact h.k2, by rw [oth_set (by omega), oth_set (by omega)]; exact h.k3, by rw [oth_set (by omega), oth_set (by omega)]; exact h.k4⟩
theorem vl_start (s : Int × Int) (l : List (Int × Int)) (ao : Option Addr) (cap : Nat) (w : World) : VlB w ((((((w.alloc (.cells #[.int .i64 s.1, .int .i64 s.2] 33)).alloc (.cells #[.int .i64 0, .int .i64 0] 33)).alloc (.cells #[.int .i64 0, .int .i64 0] 33)).alloc (.cells #[.int .i64 0] 39)).alloc (.cells #[.func (.func 25) #[] #[.pointer (some ⟨w.heap.size + 1 + 1, 0, none⟩), .pointer (some ⟨w.heap.size, 0, none⟩), .pointer (some ⟨w.heap.size + 1 + 1 + 1, 0, none⟩)]] 55)).alloc (.cells #[.slice ao l.length cap] 30)) s ((0, 0), 0) ((0, 0), 0) ∧ ((((((w.alloc (.cells #[.int .i64 s.1, .int .i64 s.2] 33)).alloc (.cells #[.int .i64 0, .int .i64 0] 33)).alloc (.cells #[.int .i64 0, .int .i64 0] 33)).alloc (.cells #[.int .i64 0] 39)).alloc (.cells #[.func (.func 25) #[] #[.pointer (some ⟨w.heap.size + 1 + 1, 0, none⟩), .pointer (some ⟨w.heap.size, 0, none⟩), .pointer (some ⟨w.heap.size + 1 + 1 + 1, 0, none⟩)]] 55)).alloc (.cells #[.slice ao l.length cap] 30)).heap[w.heap.size + 1 + 1 + 1 + 1 + 1]? = some (.cells #[.slice ao l.length cap] 30 (0, 0)) ∧ ((((((w.alloc (.cells #[.int .i64 s.1, .int .i64 s.2] 33)).alloc (.cells #[.int .i64 0, .int .i64 0] 33)).alloc (.cells #[.int .i64 0, .int .i64 0] 33)).alloc (.cells #[.int .i64 0] 39)).alloc (.cells #[.func (.func 25) #[] #[.pointer (some ⟨w.heap.size + 1 + 1, 0, none⟩), .pointer (some ⟨w.heap.size, 0, none⟩), .pointer (some ⟨w.heap.size + 1 + 1 + 1, 0, none⟩)]] 55)).alloc (.cells #[.slice ao l.length cap] 30)).heap.size = w.heap.size + 1 + 1 + 1 + 1 + 1 + 1 :=
  ⟨⟨below_alloc (below_alloc (below_alloc (below_alloc (below_alloc (below_alloc (Below.refl _ _) _) _) _) _) _) _, by simp, heap_up _ (heap_up _ (heap_up _ (heap_up _ (heap_up _ (heap_at _ rfl))))), heap_up _ (heap_up _ (heap_up _ (heap_up _ (heap_at _ (by simp))))), heap_up _ (heap_up _ (heap_up _ (heap_at _ (by simp)))), heap_up _ (heap_up _ (heap_at _ (by simp))), heap_up _ (heap_at _ (by simp))⟩, heap_at _ (by simp), by simp⟩

set_option maxRecDepth 100000 in
set_option maxHeartbeats 4000000 in
theorem poly_value (l : List (Int × Int)) (s : Int × Int) (ao : Option Addr) (cap : Nat) (w : World) (h : SpSl w ao cap l) :
    Calls Try.prog 20 #[.slice ao l.length cap, .agg #[.int .i64 s.1, .int .i64 s.2]] w fun e w' => e = .returned (.tuple #[.agg #[.int .i64 (pVal l s).1.1, .int .i64 (pVal l s).1.2], .int .i64 (pVal l s).2]) ∧ Below w.heap.size w w' := by
  have HLT : Hid (∀ a, ao = some a → l ≠ [] → a.block < w.heap.size) := Lib.hid (fun a ha hne => by
    obtain ⟨c, r, rfl⟩ := List.exists_cons_of_ne_nil hne
    have h2 := h.cells a ha 0 _ rfl
    have e := h.isSome a ha
    rw [e, add_plain] at h2
    apply Nat.lt_of_not_le
    intro hn
    rw [World.cell?, Array.getElem?_eq_none hn] at h2
    cases h2)
  refine (callsIn_wide (n := 5)).1 ?_
  refine callsIn_of_wp_marks Try.func20 rfl trivial ?_ rfl
  simp only [Try.ntmps20, List.size_toArray, List.length_cons, List.length_nil, Nat.reduceAdd, Nat.reduceSub, Array.replicate_succ, Array.replicate_zero, List.push_toArray, List.append_toArray, List.nil_append, List.cons_append]
  gi_wp2
  refine wpIn_scope_straight ?_
  gi_wp2
  refine wpIn_label ?_
  gi_wp2_with (refine ⟨trivial, ?_⟩; gi_at_call 28; refine (callsIn_wide.2 (poly_down _ _ ⟨_, _, _, rfl⟩)).mono ?_; rintro e w' ⟨rfl, rfl⟩)
  obtain ⟨hB0, hA, hsz⟩ := vl_start s l ao cap w
  have hl0 := h.on (hB0.bel)
  generalize ((((((w.alloc (.cells #[.int .i64 s.1, .int .i64 s.2] 33)).alloc (.cells #[.int .i64 0, .int .i64 0] 33)).alloc (.cells #[.int .i64 0, .int .i64 0] 33)).alloc (.cells #[.int .i64 0] 39)).alloc (.cells #[.func (.func 25) #[] #[.pointer (some ⟨w.heap.size + 1 + 1, 0, none⟩), .pointer (some ⟨w.heap.size, 0, none⟩), .pointer (some ⟨w.heap.size + 1 + 1 + 1, 0, none⟩)]] 55)).alloc (.cells #[.slice ao l.length cap] 30)) = W0 at *
  refine wpIn_rangeFunc_ownH rfl (by omega) (gf := 36) (lb := #[.pointer (some ⟨w.heap.size + 1 + 1 + 1 + 1 + 1, 0, none⟩)]) rfl trivial (enters_of Try.func36 (by kernel_rfl) rfl)
    (down_in l ao cap _ (by omega) w.heap.size _ W0 hA hl0 HLT.out) KeepD.trans
    (fun W l' o o' hl ho h1 h2 => ⟨belowK_b (w := W0) (by omega) W l' o o' hl ho h1 h2, World.putObj_heap_other (by omega)⟩)
    (Below.refl _ _) (fun _ => rfl)
    (fun pre W => VlB w W s ((0, 0), 0) (pAcc s pre.reverse) ∧ (pAcc s pre.reverse).2 = 0)
    (fun c pre W => (∃ id, c = .exit id ∧ id = 0) ∧ VlB w W s ((0, 0), 0) (pAcc s pre.reverse) ∧ ¬ (pAcc s pre.reverse).2 = 0)
    (fun pre W W' row hs hg hr => ⟨hs.1.grown (B := W0.heap.size) (by omega) hg hr, hs.2⟩)
    (fun c pre W W' row hs hg hr => ⟨hs.1, hs.2.1.grown (B := W0.heap.size) (by omega) hg hr, hs.2.2⟩)
    ⟨hB0, rfl⟩
    (fun x a' W => ∃ Bx, w.heap.size + 1 + 1 + 1 + 1 + 1 + 1 ≤ Bx ∧ W.heap[Bx]? = some (.cells #[.int .i64 x.1, .int .i64 x.2] 33 (0, 0)) ∧ a' = { tmps := #[.slice ao l.length cap, .agg #[.int .i64 s.1, .int .i64 s.2], undef, .pointer (some ⟨w.heap.size, 0, none⟩), .pointer (some ⟨w.heap.size + 1, 0, none⟩), .int .i64 0, .pointer (some ⟨w.heap.size + 1 + 1, 0, none⟩), .pointer (some ⟨w.heap.size + 1 + 1 + 1, 0, none⟩), .pointer (some ⟨w.heap.size + 1 + 1 + 1 + 1, 0, none⟩), .pointer (some ⟨Bx, 0, none⟩), .func (.func 25) #[] #[.pointer (some ⟨w.heap.size + 1 + 1, 0, none⟩), .pointer (some ⟨w.heap.size, 0, none⟩), .pointer (some ⟨w.heap.size + 1 + 1 + 1, 0, none⟩)], .slice ao l.length cap, .func (.func 36) #[] #[.pointer (some ⟨w.heap.size + 1 + 1 + 1 + 1 + 1, 0, none⟩)], .agg #[.int .i64 x.1, .int .i64 x.2], undef, undef, undef, undef, undef, undef, undef], defers := [] })
    (fun x a' _ X Y row hs hg hr => by obtain ⟨Bx, h1, h2, h3⟩ := hs; exact ⟨Bx, h1, block_kept h2 hg (fun r e => (hr r e).2), h3⟩)
    ?assign ?body ?done ?stop
  case assign =>
    rintro l' pre x W K ⟨hB, hz⟩ hK
    have HZ := Lib.hid hz
    have HK := Lib.hid hK
    clear hz hK hA hl0 h
    simp only [encS]
    gi_wp2
    have hb := below_alloc (Below.refl W.heap.size W) (.cells #[.int .i64 x.1, .int .i64 x.2] 33)
    exact HK.out _ _ ((KeepsOthers.alloc _ _).from _) ⟨hb.mono hB.bel.size, hb.block _ (by have := hB.sz; omega)⟩ ⟨hB.on hb, HZ.out⟩ ⟨W.heap.size, by have := hB.sz; omega, heap_at _ rfl, rfl⟩
  case body =>
    rintro l' pre x a' W hl ⟨rr, hrr⟩ ⟨hB, hz⟩ ⟨Bx, hBx, hX, rfl⟩ hlen
    have HZ := Lib.hid hz
    have HSN := Lib.hid (pAcc_snoc (x := x) hz)
    clear hz hA hl0 h hrr hsz hB0 hlen
    have x0 := cell_two0 hX
    have x1 := cell_two1 hX
    have e0 := cell_of_one hB.k4
    have HX := Lib.hid hX
    clear hX
    gi_wp2_with fail
    refine ⟨trivial, ?_⟩
    refine (CallsIn.inRound l' (callsIn_wide.2 (poly_extend s _ x _ _ _ _ _ (by omega) hB.k2 hB.k0 hB.k3))).mono ?_
    rintro e W3 ⟨⟨v, rfl⟩, hT⟩
    obtain ⟨R, hR⟩ : ∃ R, R = pStep s (pAcc s pre.reverse).1 x := ⟨_, rfl⟩
    rw [← hR] at hT HSN
    clear hR
    have hB3 := hB.ext hT
    have hkd : KeepD w.heap.size (w.heap.size + 1 + 1 + 1 + 1 + 1) W W3 := ⟨hT.bel _ (by omega) (by omega) (by have := hB.sz; omega), hT.oth _ (by have := hB.sz; omega) (by omega) (by omega)⟩
    clear x0 x1 e0
    have q := cell_of_one hB3.k3
    by_cases hz3 : R.2 = 0
    · have HZ3 := Lib.hid hz3
      rw [hz3] at q
      clear hz3
      gi_wp2_with fail
      exact ⟨hT.keep.from _, hkd, by rw [HSN.out]; exact hB3, by rw [HSN.out]; exact HZ3.out⟩
    · have HZ3 := Lib.hid hz3
      have z1 : (R.2 == 0) = false := by simp [hz3]
      have z2 : (R.2 != 0) = true := by simp [hz3]
      clear hz3
      gi_wp2_with fail
      exact ⟨hT.keep.from _, ⟨0, rfl, rfl⟩, by rw [HSN.out]; exact hB3, by rw [HSN.out]; exact HZ3.out⟩
  case done =>
    rintro D xs W hD rfl ⟨hB, hz⟩ hK
    rw [List.reverse_reverse] at hB
    have HS : Hid (w.heap.size + 6 ≤ W0.heap.size) := Lib.hid (by omega)
    have HK := Lib.hid hK
    clear hK hA hl0 h hB0 hsz hz
    have r0 := cell_two0 hB.k1
    have r1 := cell_two1 hB.k1
    have g0 := free_two (i := 0) hB.k1
    have g1 := free_two (i := 1) hB.k1
    have v0 := cell_two0 hB.k2
    have v1 := cell_two1 hB.k2
    have e0 := cell_of_one hB.k3
    gi_wp2_with fail
    gi_region
    all_goals
      gi_wp2
      rw [Exit.noGoto_ret]
      have hB2 := (hB.told (pAcc s l).1.1 (pAcc s l).1.2 (pAcc s l).2).on (Below.refl _ _).drew
      have hK2 := (((KeepsOthers.setCell W ⟨w.heap.size + 1, 0, none⟩ (.int .i64 (pAcc s l).1.1)).trans (KeepsOthers.setCell _ ⟨w.heap.size + 1, 1, none⟩ (.int .i64 (pAcc s l).1.2))).trans (KeepsOthers.drew _)).same D _ HK.out rfl
      refine ⟨by simp, .inl ⟨_, _, rfl, run_takeDeferred hK2, ?_⟩⟩
      have hB3 := hB2.grown (B := W0.heap.size) (by have := HS.out; omega) (grownBy_putObj' _ D (.deferred none)) (fun r e => by cases e; exact ⟨hD, _, hK2, rfl⟩)
      have q0 := cell_two0 hB3.k1
      have q1 := cell_two1 hB3.k1
      refine ⟨.tuple #[.agg #[.int .i64 (pAcc s l).1.1, .int .i64 (pAcc s l).1.2], .int .i64 (pAcc s l).2], ?_, rfl, hB3.bel⟩
      simp [results, Try.results20, go_sem, q0, q1]
  case stop =>
    rintro D c pre W hD hpre ⟨⟨id, rfl, rfl⟩, hB, hz⟩ hK
    rw [← pAcc_prefix hpre hz] at hB
    have HS : Hid (w.heap.size + 6 ≤ W0.heap.size) := Lib.hid (by omega)
    have HK := Lib.hid hK
    clear hK hA hl0 h hB0 hsz hz
    have r0 := cell_two0 hB.k1
    have r1 := cell_two1 hB.k1
    have g0 := free_two (i := 0) hB.k1
    have g1 := free_two (i := 1) hB.k1
    have v0 := cell_two0 hB.k2
    have v1 := cell_two1 hB.k2
    have e0 := cell_of_one hB.k3
    gi_wp2_with fail
    gi_region
    all_goals
      gi_wp2
      rw [Exit.noGoto_ret]
      have hB2 := (hB.told (pAcc s l).1.1 (pAcc s l).1.2 (pAcc s l).2).on (Below.refl _ _).drew
      have hK2 := (((KeepsOthers.setCell W ⟨w.heap.size + 1, 0, none⟩ (.int .i64 (pAcc s l).1.1)).trans (KeepsOthers.setCell _ ⟨w.heap.size + 1, 1, none⟩ (.int .i64 (pAcc s l).1.2))).trans (KeepsOthers.drew _)).same D _ HK.out rfl
      refine ⟨by simp, .inl ⟨_, _, rfl, run_takeDeferred hK2, ?_⟩⟩
      have hB3 := hB2.grown (B := W0.heap.size) (by have := HS.out; omega) (grownBy_putObj' _ D (.deferred none)) (fun r e => by cases e; exact ⟨hD, _, hK2, rfl⟩)
      have q0 := cell_two0 hB3.k1
      have q1 := cell_two1 hB3.k1
      refine ⟨.tuple #[.agg #[.int .i64 (pAcc s l).1.1, .int .i64 (pAcc s l).1.2], .int .i64 (pAcc s l).2], ?_, rfl, hB3.bel⟩
      simp [results, Try.results20, go_sem, q0, q1]

set_option maxRecDepth 100000 in
set_option maxHeartbeats 1000000 in
theorem poly_Eval (l : List (Int × Int)) (s : Int × Int) (ao : Option Addr) (cap : Nat) (w : World) (h : SpSl w ao cap l) :
    Calls Try.prog 11 #[.slice ao l.length cap, .agg #[.int .i64 s.1, .int .i64 s.2]] w fun e w' => e = .returned (.tuple #[.agg #[.int .i64 (pEval l s).1.1, .int .i64 (pEval l s).1.2], .int .i64 (pEval l s).2]) ∧ Below w.heap.size w w' := by
  have hB := Bx2.start w s (0, 0)
  have H := Lib.hid h
  clear h
  have HC := Lib.hid (fun W hS => poly_check l s ao cap W hS)
  obtain ⟨c, hc⟩ : ∃ c, c = pChk l s := ⟨_, rfl⟩
  rw [← hc] at HC
  by_cases hz : c = 0
  · subst hz
    have HR := Lib.hid (pEval_ok hc.symm)
    clear hc
    go_enter Try.func11, Try.ntmps11
    go_wp2_with fail
    refine (HC.out _ (H.out.on hB.bel)).mono ?_; rintro e w2 ⟨rfl, hbel⟩
    have hB := hB.on hbel
    clear hbel
    have a0 := cell_two0 hB.b0
    have a1 := cell_two1 hB.b0
    go_wp2_with fail
    refine (poly_value l s ao cap _ (H.out.on hB.bel)).mono ?_; rintro e w3 ⟨rfl, hbel⟩
    rw [← HR.out]
    have hB := hB.on hbel
    clear hbel a0 a1
    have c0 := cell_two0 hB.b1
    have c1 := cell_two1 hB.b1
    have f0 := free_two (i := 0) hB.b1
    have f1 := free_two (i := 1) hB.b1
    have l2 := lt_of_block hB.b1
    go_wp2_with fail
    exact bodyPost_ret (v := .tuple #[.agg #[.int .i64 (pEval l s).1.1, .int .i64 (pEval l s).1.2], .int .i64 (pEval l s).2]) (by simp [results, Try.results11, go_sem, c0, c1]) rfl ⟨rfl, below_set2 hB.bel (by omega) _ _⟩
  · have HR := Lib.hid (show pEval l s = ((0, 0), c) by rw [hc]; exact pEval_bad (by rw [← hc]; exact hz))
    have z1 : (c == 0) = false := by simp [hz]
    have z2 : (c != 0) = true := by simp [hz]
    clear hc hz
    go_enter Try.func11, Try.ntmps11
    go_wp2_with fail
    refine (HC.out _ (H.out.on hB.bel)).mono ?_; rintro e w2 ⟨rfl, hbel⟩
    have hB := hB.on hbel
    clear hbel
    have c0 := cell_two0 hB.b1
    have c1 := cell_two1 hB.b1
    have f0 := free_two (i := 0) hB.b1
    have f1 := free_two (i := 1) hB.b1
    have l2 := lt_of_block hB.b1
    go_wp2_with fail
    exact bodyPost_ret (v := .tuple #[.agg #[.int .i64 0, .int .i64 0], .int .i64 c]) (by simp [results, Try.results11, go_sem, c0, c1]) rfl ⟨ret_sp HR.out, below_set2 hB.bel (by omega) _ _⟩

end Go.Proofs.Ytgpaillkekhmdaa

/- Contracts of package poly: slices.Clone at intervals; Slope. -/
namespace Go.Proofs.Ytgpaillkekhmdaa
open Go.RowKit Go.Shelf Mnc

set_option maxRecDepth 100000 in
set_option maxHeartbeats 2000000 in
theorem clone_spans (l : List (Int × Int)) (b off : Nat) (cap : Nat) (w : World) (h : SpSl w (some ⟨b, off, none⟩) cap l) (hl : l.length ≤ 1000) :
    Calls Try.prog 9 #[.slice (some ⟨b, off, none⟩) l.length cap] w fun e w' => ∃ v', e = .returned v' ∧ w'.ownsRow w.heap.size 33 2 v' l.length (flat l) ∧ v' ≠ .slice none 0 0 ∧ Below w.heap.size w w' := by
  obtain ⟨i0, hi, hz0, hz1, hz2⟩ := info_parts spanInfo
  have q22 : ∀ (w : World) (a : Option Addr) (n c n' c' : Nat), (binOp .eql 30 (.slice a n c) (.slice none n' c')).run Try.prog w = .ok (.bool a.isNone) w := fun w a n c n' c' => Lib.run_eql_slice_nil w _ _ a n c n' c' Try.underlying30
  have hcells := Lib.hid (h.on (below_alloc (Below.refl w.heap.size w) (.cells #[] 33)))
  have HF := Lib.hid (flat_len l)
  have HL := Lib.hid hl
  clear h
  obtain ⟨n, hn⟩ : ∃ n, n = l.length := ⟨_, rfl⟩
  have HN := Lib.hid hn
  rw [← hn] at HF HL hl ⊢
  clear hn
  go_enter Try.func9, Try.ntmps9
  go_wp2_with (at_builtin; refine wpList_append_own _ rfl _ _ 30 rfl w.heap.size 33 i0 (.agg #[.int .i64 0, .int .i64 0]) 2 16 Try.underlying30 hi hz0 hz1 hz2 rfl (by decide) _ _ _ rfl (World.ownsRow_made w #[] 0 (Nat.le_refl _) (Nat.zero_le _) rfl) ⟨b, off, none⟩ n cap (flat l) rfl ?qc1 ?qc2 ?qc3 ?qc4 ?qc5 ?qc6 ?_)
  case qc1 => first | exact HF.out | (simp; omega)
  case qc2 => exact hcells.out.cells _ rfl
  case qc3 => exact flat_one_cell l
  case qc4 => unfold maxLen; omega
  case qc5 => omega
  case qc6 => simp
  intro v' w1 hown hgrow hnil
  go_wp2
  go_ret
  refine ⟨v', rfl, by simpa using hown, hnil, ?_⟩
  exact ((Below.refl _ w).alloc (Nat.le_refl _) _).grown hgrow (by simp) (by intro k hk; simp [Value.ownBlock] at hk; omega)
end Go.Proofs.Ytgpaillkekhmdaa

/- Contracts of package poly: Slope. -/
namespace Go.Proofs.Ytgpaillkekhmdaa
open Go.RowKit Go.Shelf Mnc

/-- The boxes of Slope, and its own row of coefficients. -/
structure SlB (w W : World) (s : Int × Int) (g cap : Nat) (L : List (Int × Int)) : Prop where
  bx : Bx2 w W s (0, 0)
  own : W.ownsRow (w.heap.size + 2) 33 2 (.slice (some ⟨g, 0, none⟩) L.length cap) L.length (flat L)
theorem SlB.lt {w W : World} {s : Int × Int} {g cap : Nat} {L : List (Int × Int)} (h : SlB w W s g cap L) : w.heap.size + 2 ≤ g ∧ g < W.heap.size := h.own.lt g rfl
theorem SlB.on {w W W' : World} {s : Int × Int} {g cap : Nat} {L : List (Int × Int)} (h : SlB w W s g cap L) (k : Below W.heap.size W W') : SlB w W' s g cap L where
  bx := h.bx.on k
  own := by
    have hlt := h.lt.2
    refine ⟨h.own.1, ?_⟩
    rcases h.own.2 with ⟨h', _⟩ | ⟨g', cap', cur, h', hb, hg, hr⟩
    · simp at h'
    · have e := h'
      simp only [Value.slice.injEq, Option.some.injEq, Addr.mk.injEq, and_true, true_and] at e
      obtain ⟨rfl, rfl⟩ := e
      exact .inr ⟨g, cap, cur, rfl, hb, (k.block _ hlt).trans hg, hr⟩
theorem SlB.at {w W : World} {s c : Int × Int} {g cap i : Nat} {L : List (Int × Int)} (h : SlB w W s g cap L) (hc : L[i]? = some c) : W.cell? ⟨g, i * 2, none⟩ = some (.int .i64 c.1) ∧ W.cell? ⟨g, i * 2 + 1, none⟩ = some (.int .i64 c.2) := by
  obtain ⟨h1, h2⟩ := flat_at L i c hc
  have hi := (List.getElem?_eq_some_iff.1 hc).1
  rw [Nat.mul_comm i 2]
  exact ⟨(h.own.cellAt _ (by omega)).trans h1, (h.own.cellAt _ (by omega)).trans h2⟩
theorem SlB.set {w W : World} {s c : Int × Int} {g cap i : Nat} {L : List (Int × Int)} (h : SlB w W s g cap L) (hi : i < L.length) : SlB w ((W.setCell ⟨g, i * 2, none⟩ (.int .i64 c.1)).setCell ⟨g, i * 2 + 1, none⟩ (.int .i64 c.2)) s g cap (L.set i c) where
  bx := by
    have hl := h.lt
    exact ⟨(h.bx.bel.setCell (show _ ≤ g by omega) _).setCell (show _ ≤ g by omega) _, by rw [heap_setCell_other _ _ _ _ (by simp; omega), heap_setCell_other _ _ _ _ (by simp; omega)]; exact h.bx.b0, by rw [heap_setCell_other _ _ _ _ (by simp; omega), heap_setCell_other _ _ _ _ (by simp; omega)]; exact h.bx.b1⟩
  own := by
    have h2 := ((h.own.stored (i * 2) (.int .i64 c.1)).1.stored (i * 2 + 1) (.int .i64 c.2)).1
    rw [flat_set _ _ _ hi] at h2
    simpa using h2
theorem SlB.spsl {w W : World} {s : Int × Int} {g cap : Nat} {L : List (Int × Int)} (h : SlB w W s g cap L) (hl : L.length ≤ 1000) : SpSl W (some ⟨g, 0, none⟩) cap L where
  le := by
    rcases h.own.2 with ⟨h', _⟩ | ⟨g', cap', cur, h', hb, hg, hr, _⟩
    · simp at h'
    · simp only [Value.slice.injEq, Option.some.injEq, Addr.mk.injEq, and_true, true_and] at h'
      obtain ⟨rfl, rfl⟩ := h'
      exact hr
  max := by omega
  cmax := by
    rcases h.own.2 with ⟨h', _⟩ | ⟨g', cap', cur, h', hb, hg, hr, hm, _⟩
    · simp at h'
    · simp only [Value.slice.injEq, Option.some.injEq, Addr.mk.injEq, and_true, true_and] at h'
      obtain ⟨rfl, rfl⟩ := h'
      unfold maxLen at hm
      omega
  isNil := fun e => by cases e
  isSome := fun a e => by cases e; rfl
  cells := fun a e j u hu => by cases e; exact h.own.cells rfl j u hu

/-- What a[1:] is. -/
theorem SpSl.tail {W : World} {b off cap : Nat} {c : Int × Int} {l : List (Int × Int)} (h : SpSl W (some ⟨b, off, none⟩) cap (c :: l)) : ∃ o, (if cap - 1 = 0 then (⟨b, off, none⟩ : Addr) else ⟨b, off + 2, none⟩) = ⟨b, o, none⟩ ∧ SpSl W (some ⟨b, o, none⟩) (cap - 1) l := by
  have hle := h.le
  have hm := h.max
  have hc := h.cmax
  simp only [List.length_cons] at hle hm
  by_cases hz : cap - 1 = 0
  · refine ⟨off, by rw [if_pos hz], ⟨by omega, by omega, by omega, fun e => by (cases e), fun a e => by cases e; rfl, fun a e j u hu => ?_⟩⟩
    obtain rfl : l = [] := List.eq_nil_of_length_eq_zero (by omega)
    simp [flat] at hu
  · refine ⟨off + 2, by rw [if_neg hz], ⟨by omega, by omega, by omega, fun e => by (cases e), fun a e => by cases e; rfl, fun a e j u hu => ?_⟩⟩
    cases e
    have := h.cells _ rfl (j + 2) u (by rw [flat_cons]; exact hu)
    rw [add_plain] at this ⊢
    rw [show off + 2 + j = off + (j + 2) by omega]
    exact this

theorem pSlope_bad {l : List (Int × Int)} {s : Int × Int} (h : ¬ pChk l s = 0) : pSlope l s = ((0, 0), pChk l s) := if_neg h
theorem pSlope_nil {s : Int × Int} (h : pChk [] s = 0) : pSlope [] s = ((0, 0), 0) := by rw [pSlope, if_pos h, if_pos rfl]
theorem pSlope_err {c : Int × Int} {l : List (Int × Int)} {s : Int × Int} (h : pChk (c :: l) s = 0) (he : ¬ (pScA l 0 []).2 = 0) : pSlope (c :: l) s = ((0, 0), (pScA l 0 []).2) := by rw [pSlope, if_pos h, if_neg (by simp), List.tail_cons, if_neg he]
theorem pSlope_ok {c : Int × Int} {l : List (Int × Int)} {s : Int × Int} (h : pChk (c :: l) s = 0) (he : (pScA l 0 []).2 = 0) : pSlope (c :: l) s = pVal (pScA l 0 []).1 s := by rw [pSlope, if_pos h, if_neg (by simp), List.tail_cons, if_pos he]

set_option maxRecDepth 100000 in
set_option maxHeartbeats 1000000 in
theorem poly_Slope_bad (l : List (Int × Int)) (s : Int × Int) (ao : Option Addr) (cap : Nat) (w : World) (h : SpSl w ao cap l) (hz : ¬ pChk l s = 0) :
    Calls Try.prog 12 #[.slice ao l.length cap, .agg #[.int .i64 s.1, .int .i64 s.2]] w fun e w' => e = .returned (.tuple #[.agg #[.int .i64 (pSlope l s).1.1, .int .i64 (pSlope l s).1.2], .int .i64 (pSlope l s).2]) ∧ Below w.heap.size w w' := by
  have hB := Bx2.start w s (0, 0)
  have H := Lib.hid h
  clear h
  have HC := Lib.hid (fun W hS => poly_check l s ao cap W hS)
  have HR := Lib.hid (pSlope_bad hz)
  obtain ⟨c, hc⟩ : ∃ c, c = pChk l s := ⟨_, rfl⟩
  rw [← hc] at HC HR hz
  have z1 : (c == 0) = false := by simp [hz]
  have z2 : (c != 0) = true := by simp [hz]
  clear hc hz
  go_enter Try.func12, Try.ntmps12
  go_wp2_with fail
  refine (HC.out _ (H.out.on hB.bel)).mono ?_; rintro e w2 ⟨rfl, hbel⟩
  have hB := hB.on hbel
  clear hbel
  have c0 := cell_two0 hB.b1
  have c1 := cell_two1 hB.b1
  have f0 := free_two (i := 0) hB.b1
  have f1 := free_two (i := 1) hB.b1
  have l2 := lt_of_block hB.b1
  go_wp2_with fail
  exact bodyPost_ret (v := .tuple #[.agg #[.int .i64 0, .int .i64 0], .int .i64 c]) (by simp [results, Try.results12, go_sem, c0, c1]) rfl ⟨ret_sp HR.out, below_set2 hB.bel (by omega) _ _⟩

set_option maxRecDepth 100000 in
set_option maxHeartbeats 1000000 in
theorem poly_Slope_nil (s : Int × Int) (ao : Option Addr) (cap : Nat) (w : World) (h : SpSl w ao cap []) (hz : pChk [] s = 0) :
    Calls Try.prog 12 #[.slice ao (0 : Nat) cap, .agg #[.int .i64 s.1, .int .i64 s.2]] w fun e w' => e = .returned (.tuple #[.agg #[.int .i64 (pSlope [] s).1.1, .int .i64 (pSlope [] s).1.2], .int .i64 (pSlope [] s).2]) ∧ Below w.heap.size w w' := by
  have hB := Bx2.start w s (0, 0)
  have H := Lib.hid h
  clear h
  have HC := Lib.hid (fun W hS => poly_check [] s ao cap W hS)
  rw [hz] at HC
  have HR := Lib.hid (pSlope_nil hz)
  clear hz
  go_enter Try.func12, Try.ntmps12
  go_wp2_with fail
  refine (HC.out _ (H.out.on hB.bel)).mono ?_; rintro e w2 ⟨rfl, hbel⟩
  have hB := hB.on hbel
  clear hbel
  have c0 := cell_two0 hB.b1
  have c1 := cell_two1 hB.b1
  have f0 := free_two (i := 0) hB.b1
  have f1 := free_two (i := 1) hB.b1
  have l2 := lt_of_block hB.b1
  go_wp2_with fail
  exact bodyPost_ret (v := .tuple #[.agg #[.int .i64 0, .int .i64 0], .int .i64 0]) (by simp [results, Try.results12, go_sem, c0, c1]) rfl ⟨ret_sp HR.out, below_set2 hB.bel (by omega) _ _⟩

theorem owns_mono {w : World} {base base' : Nat} {e : TypeId} {size : Nat} {v : Value} {n : Nat} {xs : List Value} (h : w.ownsRow base e size v n xs) (hb : base' ≤ base) : w.ownsRow base' e size v n xs := by
  refine ⟨h.1, ?_⟩
  rcases h.2 with h' | ⟨g, cap, cur, h1, h2, hr⟩
  · exact .inl h'
  · exact .inr ⟨g, cap, cur, h1, Nat.le_trans hb h2, hr⟩
theorem set_mid {acc t : List (Int × Int)} {x y : Int × Int} {k : Nat} (h : acc.length = k) : (acc ++ x :: t).set k y = (acc ++ [y]) ++ t := by
  subst h
  simp
theorem drop_at {l : List (Int × Int)} {k : Nat} {x : Int × Int} (h : l[k]? = some x) : l.drop k = x :: l.drop (k + 1) := by
  obtain ⟨hk, rfl⟩ := List.getElem?_eq_some_iff.1 h
  exact List.drop_eq_getElem_cons hk

set_option maxRecDepth 100000 in
set_option maxHeartbeats 2000000 in
theorem poly_Slope_some2 (c : Int × Int) (l : List (Int × Int)) (s : Int × Int) (b off d : Nat) (w : World) (h : SpSl w (some ⟨b, off, none⟩) (d + 2) (c :: l)) (hT : SpSl w (some ⟨b, off + 2, none⟩) (d + 1) l) (hz : pChk (c :: l) s = 0) :
    Calls Try.prog 12 #[.slice (some ⟨b, off, none⟩) (c :: l).length (d + 2), .agg #[.int .i64 s.1, .int .i64 s.2]] w fun e w' => e = .returned (.tuple #[.agg #[.int .i64 (pSlope (c :: l) s).1.1, .int .i64 (pSlope (c :: l) s).1.2], .int .i64 (pSlope (c :: l) s).2]) ∧ Below w.heap.size w w' := by
  have hB := Bx2.start w s (0, 0)
  have hle := h.le
  have hmax := h.cmax
  have H := Lib.hid h
  have HT := Lib.hid hT
  clear h hT
  have hl8 : l.length + 1 ≤ 8 := by
    apply Nat.le_of_not_lt
    intro hn
    rw [pChk_long (by simpa using hn)] at hz
    cases hz
  have HC := Lib.hid (fun W hS => poly_check (c :: l) s (some ⟨b, off, none⟩) (d + 2) W hS)
  have HCl := Lib.hid (fun W hS => clone_spans l b (off + 2) (d + 1) W hS (by omega))
  have HPS := Lib.hid (fun he => pSlope_err (l := l) hz he)
  have HPO := Lib.hid (fun he => pSlope_ok (l := l) hz he)
  rw [hz] at HC
  rw [List.length_cons] at hle HC ⊢
  obtain ⟨n, hn⟩ : ∃ n, n = l.length := ⟨_, rfl⟩
  have HN := Lib.hid hn
  rw [← hn] at hle hl8 HC HCl ⊢
  have q1 : ((((n + 1 : Nat) : Int)) == 0) = false := by
    rw [beq_eq_false_iff_ne]
    omega
  clear hn hz
  go_enter Try.func12, Try.ntmps12
  go_wp2_with fail
  refine (HC.out _ (H.out.on hB.bel)).mono ?_; rintro e w2 ⟨rfl, hbel⟩
  have hB := hB.on hbel
  clear hbel
  go_wp2_with fail
  refine (HCl.out _ (HT.out.on hB.bel)).mono ?_
  rintro e w3 ⟨v', rfl, hown, hnil, hbel⟩
  obtain ⟨g, capd, rfl⟩ : ∃ g capd, v' = .slice (some ⟨g, 0, none⟩) n capd := by
    rcases hown.2 with ⟨h', _⟩ | ⟨g', cap', cur, h', _⟩
    · exact absurd h' hnil
    · exact ⟨g', cap', h'⟩
  have HS : Hid (SlB w w3 s g capd l) := Lib.hid ⟨hB.on hbel, by rw [← HN.out]; exact owns_mono hown (by have := lt_of_block hB.b1; omega)⟩
  clear hown hnil hbel hB q1 hmax hle
  go_wp2_with fail
  go_simp
  go_loopw [27] (fun i wr => ∃ k : Nat, k ≤ n ∧ i = .int .i64 k ∧ ∃ acc : List (Int × Int), Hid (acc.length = k ∧ pScA l 0 [] = pScA (l.drop k) k acc ∧ SlB w wr s g capd (acc ++ l.drop k))) (fun i _ => n - (intOf i).toNat)
  case atStart => exact ⟨0, by omega, rfl, [], Lib.hid ⟨rfl, rfl, HS.out⟩⟩
  case round =>
    clear HS
    obtain ⟨k, hk, rfl, acc, HI⟩ := hrel
    rcases Nat.lt_or_ge k n with hk' | hk'
    · obtain ⟨x, hx⟩ : ∃ x, l[k]? = some x := ⟨_, List.getElem?_eq_getElem (by rw [← HN.out]; exact hk')⟩
      have HD : Hid (l.drop k = x :: l.drop (k + 1)) := Lib.hid (drop_at hx)
      have HI2 : Hid (acc.length = k ∧ pScA l 0 [] = pScA (x :: l.drop (k + 1)) k acc ∧ SlB w wr s g capd (acc ++ x :: l.drop (k + 1))) := Lib.hid (by rw [← HD.out]; exact HI.out)
      clear hx
      obtain ⟨c0, c1⟩ := HI2.out.2.2.at (i := k) (c := x) (by rw [← HI2.out.1]; simp)
      have HSc := Lib.hid (fun W => span_Scale x ((k : Int) + 1) 1 W)
      have HOK := Lib.hid (fun he => pScA_ok (r := l.drop (k + 1)) (acc := acc) (i := k) (c := x) he)
      have HNO := Lib.hid (fun he => pScA_bad (r := l.drop (k + 1)) (acc := acc) (i := k) (c := x) he)
      obtain ⟨r, hr⟩ : ∃ r, r = sScl x ((k : Int) + 1) 1 := ⟨_, rfl⟩
      rw [← hr] at HSc HOK HNO
      clear hr
      by_cases hz : r.2 = 0
      · have HZ := Lib.hid hz
        rw [hz] at HSc
        clear hz
        go_wp2_with fail
        refine (HSc.out _).mono ?_; rintro e w4 ⟨rfl, hbel⟩
        have hS := HI2.out.2.2.on hbel
        clear hbel c0 c1
        obtain ⟨c0, c1⟩ := hS.at (i := k) (c := x) (by rw [← HI2.out.1]; simp)
        have f0 := hS.own.frozenAt (k * 2)
        have f1 := hS.own.frozenAt (k * 2 + 1)
        have lg := hS.lt.2
        have ng : ¬ w4.heap.size = g := by omega
        have ng2 : ¬ g = w4.heap.size := by omega
        have HS4 := Lib.hid hS
        clear hS
        go_wp2_with fail
        go_roundw
        case rel => exact ⟨k + 1, by omega, by go_num, acc ++ [r.1], Lib.hid (by
            refine ⟨by simp [HI2.out.1], ?_, ?_⟩
            · rw [HI2.out.2.1, HOK.out HZ.out]
            · have h2 := HS4.out.set (i := k) (c := r.1) (by simp [HI2.out.1])
              rw [set_mid HI2.out.1] at h2
              exact h2.on (below_alloc (Below.refl _ _) (.cells #[.int .i64 r.1.1, .int .i64 r.1.2] 33)))⟩
        case measure => simp [intOf]; omega
      · have z1 : (r.2 == 0) = false := by simp [hz]
        have z2 : (r.2 != 0) = true := by simp [hz]
        have HZ := Lib.hid hz
        clear hz
        go_wp2_with fail
        refine (HSc.out _).mono ?_; rintro e w4 ⟨rfl, hbel⟩
        have hS := HI2.out.2.2.on hbel
        clear hbel c0 c1
        have hB := hS.bx.bel
        have hb1 := hS.bx.b1
        clear hS
        have c0 := cell_two0 hb1
        have c1 := cell_two1 hb1
        have f0 := free_two (i := 0) hb1
        have f1 := free_two (i := 1) hb1
        have l2 := lt_of_block hb1
        have ng : ¬ w4.heap.size = w.heap.size + 1 := by omega
        have ng2 : ¬ w.heap.size + 1 = w4.heap.size := by omega
        have HBB := Lib.hid hB
        have HV : Hid (pSlope (c :: l) s = ((0, 0), r.2)) := Lib.hid (by
          have e : pScA l 0 [] = ([], r.2) := by rw [HI2.out.2.1, HNO.out HZ.out]
          rw [HPS.out (by rw [e]; exact HZ.out), e])
        clear hb1 hB
        go_wp2_with fail
        exact bodyPost_ret (v := .tuple #[.agg #[.int .i64 0, .int .i64 0], .int .i64 r.2]) (by simp [results, Try.results12, go_sem, c0, c1, l2]) rfl ⟨ret_sp HV.out, below_alloc (below_set2 HBB.out (by omega) _ _) _⟩
    · obtain rfl : k = n := by omega
      have HV : Hid (pScA l 0 [] = (acc, 0) ∧ SlB w wr s g capd acc) := Lib.hid (by
        have e : l.drop k = [] := by rw [HN.out]; simp
        have h2 := HI.out
        rw [e, List.append_nil] at h2
        exact ⟨h2.2.1, h2.2.2⟩)
      have HR : Hid (pSlope (c :: l) s = pVal acc s) := Lib.hid (by rw [HPO.out (by rw [HV.out.1]), HV.out.1])
      have hB := HV.out.2.bx
      have s0 := cell_two0 hB.b0
      have s1 := cell_two1 hB.b0
      have HK : Hid (acc.length = k) := Lib.hid HI.out.1
      have HVl := Lib.hid (fun W hS => poly_value acc s (some ⟨g, 0, none⟩) capd W hS)
      rw [HK.out] at HVl
      go_wp2_with fail
      refine (HVl.out _ (HV.out.2.spsl (by rw [HK.out]; omega))).mono ?_; rintro e w4 ⟨rfl, hbel⟩
      rw [← HR.out]
      have hB := hB.on hbel
      clear hbel s0 s1
      have c0 := cell_two0 hB.b1
      have c1 := cell_two1 hB.b1
      have f0 := free_two (i := 0) hB.b1
      have f1 := free_two (i := 1) hB.b1
      have l2 := lt_of_block hB.b1
      go_wp2_with fail
      exact bodyPost_ret (v := .tuple #[.agg #[.int .i64 (pSlope (c :: l) s).1.1, .int .i64 (pSlope (c :: l) s).1.2], .int .i64 (pSlope (c :: l) s).2]) (by simp [results, Try.results12, go_sem, c0, c1]) rfl ⟨rfl, below_set2 hB.bel (by omega) _ _⟩

set_option maxRecDepth 100000 in
set_option maxHeartbeats 2000000 in
theorem poly_Slope_one (c : Int × Int) (s : Int × Int) (b off : Nat) (w : World) (h : SpSl w (some ⟨b, off, none⟩) 1 [c]) (hT : SpSl w (some ⟨b, off, none⟩) 0 []) (hz : pChk [c] s = 0) :
    Calls Try.prog 12 #[.slice (some ⟨b, off, none⟩) 1 1, .agg #[.int .i64 s.1, .int .i64 s.2]] w fun e w' => e = .returned (.tuple #[.agg #[.int .i64 (pSlope [c] s).1.1, .int .i64 (pSlope [c] s).1.2], .int .i64 (pSlope [c] s).2]) ∧ Below w.heap.size w w' := by
  have hB := Bx2.start w s (0, 0)
  have H := Lib.hid h
  have HT := Lib.hid hT
  clear h hT
  have HC := Lib.hid (fun W hS => poly_check [c] s (some ⟨b, off, none⟩) 1 W hS)
  have HCl := Lib.hid (fun W hS => clone_spans [] b off 0 W hS (by simp))
  have HR : Hid (pSlope [c] s = pVal [] s) := Lib.hid (pSlope_ok hz rfl)
  rw [hz] at HC
  clear hz
  go_enter Try.func12, Try.ntmps12
  go_wp2_with fail
  refine (HC.out _ (H.out.on hB.bel)).mono ?_; rintro e w2 ⟨rfl, hbel⟩
  have hB := hB.on hbel
  clear hbel
  go_wp2_with fail
  refine (HCl.out _ (HT.out.on hB.bel)).mono ?_
  rintro e w3 ⟨v', rfl, hown, hnil, hbel⟩
  obtain ⟨g, capd, rfl⟩ : ∃ g capd, v' = .slice (some ⟨g, 0, none⟩) 0 capd := by
    rcases hown.2 with ⟨h', _⟩ | ⟨g', cap', cur, h', _⟩
    · exact absurd h' hnil
    · exact ⟨g', cap', h'⟩
  have HS : Hid (SlB w w3 s g capd []) := Lib.hid ⟨hB.on hbel, owns_mono hown (by have := lt_of_block hB.b1; omega)⟩
  clear hown hnil hbel hB
  go_wp2_with fail
  go_simp
  go_loopw [27] (fun i wr => i = .int .i64 0 ∧ Hid (SlB w wr s g capd [])) (fun i _ => 0 - (intOf i).toNat)
  case atStart => exact ⟨rfl, HS⟩
  case round =>
    clear HS
    obtain ⟨rfl, HI⟩ := hrel
    have hB := HI.out.bx
    have s0 := cell_two0 hB.b0
    have s1 := cell_two1 hB.b0
    have HVl := Lib.hid (fun W hS => poly_value [] s (some ⟨g, 0, none⟩) capd W hS)
    go_wp2_with fail
    refine (HVl.out _ (HI.out.spsl (by simp))).mono ?_; rintro e w4 ⟨rfl, hbel⟩
    rw [← HR.out]
    have hB := hB.on hbel
    clear hbel s0 s1
    have c0 := cell_two0 hB.b1
    have c1 := cell_two1 hB.b1
    have f0 := free_two (i := 0) hB.b1
    have f1 := free_two (i := 1) hB.b1
    have l2 := lt_of_block hB.b1
    go_wp2_with fail
    exact bodyPost_ret (v := .tuple #[.agg #[.int .i64 (pSlope [c] s).1.1, .int .i64 (pSlope [c] s).1.2], .int .i64 (pSlope [c] s).2]) (by simp [results, Try.results12, go_sem, c0, c1]) rfl ⟨rfl, below_set2 hB.bel (by omega) _ _⟩

theorem poly_Slope (l : List (Int × Int)) (s : Int × Int) (ao : Option Addr) (cap : Nat) (w : World) (h : SpSl w ao cap l) :
    Calls Try.prog 12 #[.slice ao l.length cap, .agg #[.int .i64 s.1, .int .i64 s.2]] w fun e w' => e = .returned (.tuple #[.agg #[.int .i64 (pSlope l s).1.1, .int .i64 (pSlope l s).1.2], .int .i64 (pSlope l s).2]) ∧ Below w.heap.size w w' := by
  by_cases hz : pChk l s = 0
  · cases l with
    | nil => exact poly_Slope_nil s ao cap w h hz
    | cons c l =>
      have hle := h.le
      rw [List.length_cons] at hle
      cases ao with
      | none =>
        have := (h.isNil rfl).1
        simp at this
      | some a =>
        have ha := h.isSome a rfl
        obtain ⟨b, off, ax⟩ := a
        cases ha
        obtain ⟨o, ho, hT⟩ := h.tail
        by_cases hc : cap - 1 = 0
        · obtain rfl : cap = 1 := by omega
          obtain rfl : l = [] := List.eq_nil_of_length_eq_zero (by omega)
          rw [if_pos hc] at ho
          cases ho
          exact poly_Slope_one c s b off w h hT hz
        · obtain ⟨d, rfl⟩ : ∃ d, cap = d + 2 := ⟨cap - 2, by omega⟩
          rw [if_neg hc] at ho
          cases ho
          exact poly_Slope_some2 c l s b off d w h hT hz
  · exact poly_Slope_bad l s ao cap w h hz
end Go.Proofs.Ytgpaillkekhmdaa
