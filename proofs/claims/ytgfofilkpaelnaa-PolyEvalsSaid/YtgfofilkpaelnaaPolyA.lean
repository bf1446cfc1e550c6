/- Contracts of package poly: check. -/
import Derived.RangeFuncBox
import Derived.Deep.RegionLaw
import Derived.Deep.RegionLawGrows
import Derived.Test.YtgfofilkpaelnaaSpanC
import Derived.Test.YtgfofilkpaelnaaPolyPlain
namespace Go.Proofs.Ytgfofilkpaelnaa
open Go.RowKit Mnc

/-- A slice of intervals that reads as a list. -/
structure SpSl (W : World) (ao : Option Addr) (cap : Nat) (l : List (Int × Int)) : Prop where
  le : l.length ≤ cap
  max : l.length ≤ 1000000000000
  cmax : cap ≤ 9223372036854775807
  isNil : ao = none → l.length = 0 ∧ cap = 0
  isSome : ∀ a, ao = some a → a = ⟨a.block, a.off, none⟩
  cells : ∀ a, ao = some a → ∀ j u, (flat l)[j]? = some u → W.cell? (a.add j) = some u
theorem SpSl.on {W W' : World} {ao : Option Addr} {cap : Nat} {l : List (Int × Int)} (h : SpSl W ao cap l) (k : Below W.heap.size W W') : SpSl W' ao cap l :=
  ⟨h.le, h.max, h.cmax, h.isNil, h.isSome, fun a ha j u hu => by
    have := h.cells a ha j u hu
    have hl : (a.add j).block < W.heap.size := by
      apply Nat.lt_of_not_le
      intro hn
      rw [World.cell?, Array.getElem?_eq_none hn] at this
      cases this
    rw [k.cell hl]
    exact this⟩

theorem spanInfo : (Try.prog.info? 24).map (fun i => (i.zero, i.size, i.bytes)) = some (some (.agg #[.int .i64 0, .int .i64 0]), 2, 16) := by kernel_rfl

theorem news2 (w : World) (o : Obj) (x y : Value) (t : TypeId) : ∀ (j : Nat) (u : Value), [x, y][j]? = some u → (((w.alloc o).alloc (.cells #[x, y] t)).drew).cell? ((⟨w.heap.size + 1, 0, none⟩ : Addr).add j) = some u := by
  intro j u h
  match j, h with
  | 0, h =>
    cases h
    simp [Addr.add]
  | 1, h =>
    cases h
    simp [Addr.add]
  | j + 2, h => simp at h

theorem add_plain (g off j : Nat) : (⟨g, off, none⟩ : Addr).add j = ⟨g, off + j, none⟩ := by
  unfold Addr.add
  split
  · rename_i h
    subst h
    rfl
  · rfl

/-- Where a loop over intervals in a block of the call's own stands. -/
structure ChAt (w W : World) (g : Nat) (L : List (Int × Int)) (k : Nat) : Prop where
  bel : Below w.heap.size w W
  lt : g < W.heap.size
  cells : ∀ j u, (flat L)[j]? = some u → W.cell? ((⟨g, 0, none⟩ : Addr).add j) = some u
  oks : ∀ c ∈ L.take k, okS c
theorem ChAt.next {w W W' : World} {g : Nat} {L : List (Int × Int)} {k : Nat} {c : Int × Int} (h : ChAt w W g L k) (hb : Below W.heap.size W W') (hc : L[k]? = some c) (ho : okS c) : ChAt w W' g L (k + 1) where
  bel := below_step h.bel hb
  lt := Nat.lt_of_lt_of_le h.lt hb.size
  cells := fun j u hu => (hb.cell (p := (⟨g, 0, none⟩ : Addr).add j) (by rw [add_plain]; exact h.lt)).trans (h.cells j u hu)
  oks := fun x hx => by
    rw [List.take_add_one, List.mem_append] at hx
    rcases hx with hx | hx
    · exact h.oks x hx
    · rw [hc] at hx
      simp at hx
      subst hx
      exact ho
theorem ChAt.at {w W : World} {g : Nat} {L : List (Int × Int)} {k : Nat} {c : Int × Int} (h : ChAt w W g L k) (hc : L[k]? = some c) : W.cell? ⟨g, k * 2, none⟩ = some (.int .i64 c.1) ∧ W.cell? ⟨g, k * 2 + 1, none⟩ = some (.int .i64 c.2) := by
  obtain ⟨h1, h2⟩ := flat_at L k c hc
  have a := h.cells _ _ h1
  have b := h.cells _ _ h2
  rw [add_plain, Nat.zero_add] at a b
  rw [Nat.mul_comm k 2]
  exact ⟨a, b⟩

set_option maxRecDepth 100000 in
set_option maxHeartbeats 1000000 in
theorem poly_check_some (l : List (Int × Int)) (s : Int × Int) (ab aoff cap : Nat) (w : World) (h : SpSl w (some ⟨ab, aoff, none⟩) cap l) (hl : ¬ 8 < l.length) :
    Calls Try.prog 84 #[.slice (some ⟨ab, aoff, none⟩) l.length cap, .agg #[.int .i64 s.1, .int .i64 s.2]] w fun e w' => e = .returned (.int .i64 (pChk l s)) ∧ Below w.heap.size w w' := by
  have hb : decide ((8 : Int) < (l.length : Int)) = false := by simp; omega
  obtain ⟨i0, hi, hz0, hz1, hz2⟩ := info_parts spanInfo
  have hle := h.le
  have hcap := h.cmax
  have HC : Hid (∀ W, Below w.heap.size w W → ∀ b, some (⟨ab, aoff, none⟩ : Addr) = some b → ∀ j u, (flat l)[j]? = some u → W.cell? (b.add j) = some u) := Lib.hid (fun W hb b e j u hu => by
    have h2 := h.cells b e j u hu
    have hl : (b.add j).block < w.heap.size := by
      apply Nat.lt_of_not_le
      intro hn
      rw [World.cell?, Array.getElem?_eq_none hn] at h2
      cases h2
    rw [hb.cell hl]
    exact h2)
  have HF := Lib.hid (flat_len l)
  have HL := Lib.hid (show ¬ 8 < l.length from hl)
  obtain ⟨n, hn⟩ : ∃ n, n = l.length := ⟨_, rfl⟩
  have HN := Lib.hid hn
  rw [← hn] at hle hl hb HF ⊢
  have hle2 : (n : Int) ≤ (cap : Int) := by omega
  have hn8 : (n : Int) ≤ 8 := by omega
  clear h hn
  go_enter Try.func84, Try.ntmps84
  go_wp2_with fail
  go_region_law (refine step_append_grows rfl (.tmp 16) (.tmp 18) 22 rfl 24 i0 (.agg #[.int .i64 0, .int .i64 0]) 2 16 Try.underlying22 hi hz0 hz1 hz2 rfl (by decide) (some ⟨ab, aoff, none⟩) n n (flat l) (by simp [Act.eval]) (fun h => by cases h) HF.out (HC.out _ (by exact (below_alloc (below_alloc (Below.refl _ _) _) _).drew)) ⟨w.heap.size + 1, 0, none⟩ 1 1 [.int .i64 s.1, .int .i64 s.2] (by simp [Act.eval]) rfl (news2 _ _ _ _ _) (flat_one_cell [s]) (by omega) (by unfold maxLen; omega) (by omega) ?_; intro v' w' hown hgrow; obtain ⟨g', cap', rfl⟩ := ownsRow_succ hown)
  have HO : Hid (ChAt w w' g' (l ++ [s]) 0) := Lib.hid (by
    have hb : Below w.heap.size w w' := (((below_alloc (below_alloc (Below.refl _ _) _) _).drew).grown hgrow (by simp; omega) (fun k e => by cases e))
    exact ⟨hb, (hown.lt g' rfl).2, fun j u hu => hown.cells rfl j u (by rw [flat_append] at hu; exact hu), fun c hc => by simp at hc⟩)
  clear hown hgrow
  obtain ⟨L, hL⟩ : ∃ L, L = l ++ [s] := ⟨_, rfl⟩
  have HM : Hid (∀ c, c ∈ L ↔ c ∈ l ∨ c = s) := Lib.hid (fun c => by rw [hL]; simp)
  have HLn : Hid (L.length = n + 1) := Lib.hid (by rw [hL]; simp [← HN.out])
  rw [← hL] at HO
  clear hL
  go_wp2_with fail
  go_simp
  go_loopw [21] (fun i wr => ∃ k : Nat, k ≤ n + 1 ∧ i = .int .i64 k ∧ Hid (ChAt w wr g' L k)) (fun i _ => n + 1 - (intOf i).toNat)
  case atStart => exact ⟨0, by omega, rfl, HO⟩
  case round =>
    obtain ⟨k, hk, rfl, HA⟩ := hrel
    rcases Nat.lt_or_ge k (n + 1) with hk' | hk'
    · obtain ⟨c, hc⟩ : ∃ c, L[k]? = some c := ⟨_, List.getElem?_eq_getElem (by rw [HLn.out]; exact hk')⟩
      obtain ⟨c0, c1⟩ := HA.out.at hc
      have HCk := Lib.hid hc
      clear hc
      by_cases ho : okS c
      · have H := Lib.hid ho
        clear ho
        go_wp2_with fail
        refine (span_Check_ok H.out _).mono ?_; rintro e w2 ⟨rfl, hbel⟩
        have HA2 := Lib.hid (HA.out.next (below_step (below_alloc (Below.refl _ _) _) hbel) HCk.out H.out)
        clear hbel c0 c1
        go_wp2_with fail
        go_roundw
        case rel => exact ⟨k + 1, by omega, by go_num, HA2⟩
        case measure => simp [intOf]; omega
      · have H := Lib.hid ho
        clear ho
        go_wp2_with fail
        refine (span_Check_bad H.out _).mono ?_; rintro e w2 ⟨rfl, hbel⟩
        have hB2 := below_step (below_alloc HA.out.bel _) hbel
        clear hbel c0 c1
        have HV : Hid (pChk l s = 20) := Lib.hid (pChk_bad HL.out (fun g => H.out (by
          rcases (HM.out c).1 (List.mem_of_getElem? HCk.out) with h | h
          · exact g.1 c h
          · rw [h]; exact g.2)))
        go_wp2_with fail
        go_ret
        exact ⟨ret_int HV.out.symm, hB2⟩
    · have HV : Hid (pChk l s = 0) := Lib.hid (by
        have ho : ∀ c ∈ L, okS c := fun c hc => HA.out.oks c (by rw [List.take_of_length_le (by rw [HLn.out]; exact hk')]; exact hc)
        exact pChk_ok HL.out (fun c hc => ho c ((HM.out c).2 (.inl hc))) (ho s ((HM.out s).2 (.inr rfl))))
      obtain rfl : k = n + 1 := by omega
      go_wp2_with fail
      go_ret
      exact ⟨ret_int HV.out.symm, HA.out.bel⟩

set_option maxRecDepth 100000 in
set_option maxHeartbeats 1000000 in
theorem poly_check_none (s : Int × Int) (w : World) :
    Calls Try.prog 84 #[.slice none 0 0, .agg #[.int .i64 s.1, .int .i64 s.2]] w fun e w' => e = .returned (.int .i64 (pChk [] s)) ∧ Below w.heap.size w w' := by
  obtain ⟨i0, hi, hz0, hz1, hz2⟩ := info_parts spanInfo
  obtain ⟨l, hl⟩ : ∃ l : List (Int × Int), l = [] := ⟨_, rfl⟩
  rw [← hl]
  have HC : Hid (∀ W, Below w.heap.size w W → ∀ b, (none : Option Addr) = some b → ∀ j u, (flat l)[j]? = some u → W.cell? (b.add j) = some u) := Lib.hid (fun _ _ _ e => by cases e)
  have HF : Hid ((flat l).length = 0 * 2) := Lib.hid (by rw [hl]; rfl)
  have HL : Hid (¬ 8 < l.length) := Lib.hid (by rw [hl]; simp)
  have HN : Hid (0 = l.length) := Lib.hid (by rw [hl]; rfl)
  clear hl
  go_enter Try.func84, Try.ntmps84
  go_wp2_with fail
  go_region_law (refine step_append_grows rfl (.tmp 16) (.tmp 18) 22 rfl 24 i0 (.agg #[.int .i64 0, .int .i64 0]) 2 16 Try.underlying22 hi hz0 hz1 hz2 rfl (by decide) none 0 0 (flat l) (by simp [Act.eval]) (fun _ => ⟨rfl, rfl⟩) HF.out (HC.out _ (by exact (below_alloc (below_alloc (Below.refl _ _) _) _).drew)) ⟨w.heap.size + 1, 0, none⟩ 1 1 [.int .i64 s.1, .int .i64 s.2] (by simp [Act.eval]) rfl (news2 _ _ _ _ _) (flat_one_cell [s]) (by omega) (by unfold maxLen; omega) (by omega) ?_; intro v' w' hown hgrow; obtain ⟨g', cap', rfl⟩ := ownsRow_succ hown)
  have HO : Hid (ChAt w w' g' (l ++ [s]) 0) := Lib.hid (by
    have hb : Below w.heap.size w w' := (((below_alloc (below_alloc (Below.refl _ _) _) _).drew).grown hgrow (by simp; omega) (fun k e => by cases e))
    exact ⟨hb, (hown.lt g' rfl).2, fun j u hu => hown.cells rfl j u (by rw [flat_append] at hu; exact hu), fun c hc => by simp at hc⟩)
  clear hown hgrow
  obtain ⟨L, hL⟩ : ∃ L, L = l ++ [s] := ⟨_, rfl⟩
  have HM : Hid (∀ c, c ∈ L ↔ c ∈ l ∨ c = s) := Lib.hid (fun c => by rw [hL]; simp)
  have HLn : Hid (L.length = 0 + 1) := Lib.hid (by rw [hL]; simp [← HN.out])
  rw [← hL] at HO
  clear hL
  go_wp2_with fail
  go_simp
  go_loopw [21] (fun i wr => ∃ k : Nat, k ≤ 0 + 1 ∧ i = .int .i64 k ∧ Hid (ChAt w wr g' L k)) (fun i _ => 0 + 1 - (intOf i).toNat)
  case atStart => exact ⟨0, by omega, rfl, HO⟩
  case round =>
    obtain ⟨k, hk, rfl, HA⟩ := hrel
    rcases Nat.lt_or_ge k (0 + 1) with hk' | hk'
    · obtain ⟨c, hc⟩ : ∃ c, L[k]? = some c := ⟨_, List.getElem?_eq_getElem (by rw [HLn.out]; exact hk')⟩
      obtain ⟨c0, c1⟩ := HA.out.at hc
      have HCk := Lib.hid hc
      clear hc
      by_cases ho : okS c
      · have H := Lib.hid ho
        clear ho
        go_wp2_with fail
        refine (span_Check_ok H.out _).mono ?_; rintro e w2 ⟨rfl, hbel⟩
        have HA2 := Lib.hid (HA.out.next (below_step (below_alloc (Below.refl _ _) _) hbel) HCk.out H.out)
        clear hbel c0 c1
        go_wp2_with fail
        go_roundw
        case rel => exact ⟨k + 1, by omega, by go_num, HA2⟩
        case measure => simp [intOf]; omega
      · have H := Lib.hid ho
        clear ho
        go_wp2_with fail
        refine (span_Check_bad H.out _).mono ?_; rintro e w2 ⟨rfl, hbel⟩
        have hB2 := below_step (below_alloc HA.out.bel _) hbel
        clear hbel c0 c1
        have HV : Hid (pChk l s = 20) := Lib.hid (pChk_bad HL.out (fun g => H.out (by
          rcases (HM.out c).1 (List.mem_of_getElem? HCk.out) with h | h
          · exact g.1 c h
          · rw [h]; exact g.2)))
        go_wp2_with fail
        go_ret
        exact ⟨ret_int HV.out.symm, hB2⟩
    · have HV : Hid (pChk l s = 0) := Lib.hid (by
        have ho : ∀ c ∈ L, okS c := fun c hc => HA.out.oks c (by rw [List.take_of_length_le (by rw [HLn.out]; exact hk')]; exact hc)
        exact pChk_ok HL.out (fun c hc => ho c ((HM.out c).2 (.inl hc))) (ho s ((HM.out s).2 (.inr rfl))))
      obtain rfl : k = 0 + 1 := by omega
      go_wp2_with fail
      go_ret
      exact ⟨ret_int HV.out.symm, HA.out.bel⟩

set_option maxHeartbeats 1000000 in
theorem poly_check (l : List (Int × Int)) (s : Int × Int) (ao : Option Addr) (cap : Nat) (w : World) (h : SpSl w ao cap l) :
    Calls Try.prog 84 #[.slice ao l.length cap, .agg #[.int .i64 s.1, .int .i64 s.2]] w fun e w' => e = .returned (.int .i64 (pChk l s)) ∧ Below w.heap.size w w' := by
  by_cases hl : 8 < l.length
  · rw [pChk_long hl]
    have hb : decide ((8 : Int) < (l.length : Int)) = true := by simp; omega
    clear hl
    go_enter Try.func84, Try.ntmps84
    go_wp2
    go_ret
    exact ⟨rfl, below_alloc (Below.refl _ _) _⟩
  · cases ao with
    | none =>
      obtain ⟨hl0, hc0⟩ := h.isNil rfl
      obtain rfl : l = [] := List.eq_nil_of_length_eq_zero hl0
      subst hc0
      exact poly_check_none s w
    | some a =>
      have ha := h.isSome a rfl
      obtain ⟨ab, aoff, ax⟩ := a
      cases ha
      exact poly_check_some l s ab aoff cap w h hl
end Go.Proofs.Ytgfofilkpaelnaa
