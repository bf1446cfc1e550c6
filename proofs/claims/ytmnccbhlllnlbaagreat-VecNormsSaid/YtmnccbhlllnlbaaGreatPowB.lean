/- Contracts of package span: high. -/
import Derived.BigQuiet
import Derived.Deep.QuietTactic
import Derived.Test.YtmnccbhlllnlbaaGreatPowA
namespace Mnc
open Go
/-- What high answers. -/
structure HiOk (l : List Nat) (sh q : Nat) (r f : Bool) : Prop where
  good : f = true → q = dval l / 2 ^ sh ∧ (r = true ↔ dval l % 2 ^ sh ≠ 0)
  bad : f = false → 18446744073709551616 ≤ dval l / 2 ^ sh
  lt : q < 18446744073709551616
/-- .. as an ending. -/
def HiEnd (l : List Nat) (sh : Nat) (e : Ending) : Prop := ∃ (q : Nat) (r f : Bool), e = .returned (.tuple #[.int .u64 (q : Int), .bool r, .bool f]) ∧ HiOk l sh q r f
theorem HiEnd.mk {l : List Nat} {sh q : Nat} {r f : Bool} (h : HiOk l sh q r f) : HiEnd l sh (.returned (.tuple #[.int .u64 (q : Int), .bool r, .bool f])) := ⟨q, r, f, rfl, h⟩
theorem dat_drop {l : List Nat} {k : Nat} (h : ∀ t, k ≤ t → t < l.length → dat l t = 0) : dval (l.drop k) = 0 := by
  rw [dval_zero_iff]
  intro d hd
  obtain ⟨i, hi, rfl⟩ := List.mem_iff_getElem.1 hd
  rw [List.length_drop] at hi
  have h2 := h (k + i) (by omega) (by omega)
  unfold dat at h2
  rw [List.getD_eq_getElem?_getD, List.getElem?_eq_getElem (by omega)] at h2
  rw [List.getElem_drop]
  exact h2
theorem dat_big {l : List Nat} {k t : Nat} (hk : k ≤ t) (ht : t < l.length) (h : dat l t ≠ 0) : 1 ≤ dval (l.drop k) := by
  apply Nat.pos_of_ne_zero
  intro h0
  rw [dval_zero_iff] at h0
  apply h
  unfold dat
  rw [List.getD_eq_getElem?_getD, List.getElem?_eq_getElem ht]
  apply h0
  rw [List.mem_iff_getElem]
  refine ⟨t - k, by rw [List.length_drop]; omega, ?_⟩
  rw [List.getElem_drop]
  congr 1
  omega
theorem hi32_bad1 {l : List Nat} (h : dok l) {s : Nat} (hy : dat l (s + 1) / 4294967296 ≠ 0) : HiOk l (64 * s + 32) 0 false false := by
  refine ⟨fun e => by simp at e, fun _ => ?_, by omega⟩
  rw [(high_32 l h s).1]
  omega
theorem hi32_bad2 {l : List Nat} (h : dok l) {s t : Nat} (hk : s + 2 ≤ t) (ht : t < l.length) (hd : dat l t ≠ 0) : HiOk l (64 * s + 32) 0 false false := by
  refine ⟨fun e => by simp at e, fun _ => ?_, by omega⟩
  rw [(high_32 l h s).1]
  have := dat_big hk ht hd
  omega
theorem hi32_ok {l : List Nat} (h : dok l) {s : Nat} (hd : ∀ t, s + 2 ≤ t → t < l.length → dat l t = 0) (hy : dat l (s + 1) / 4294967296 = 0) : HiOk l (64 * s + 32) (dat l s / 4294967296 + (dat l (s + 1) % 4294967296) * 4294967296) (dleft l s || decide (0 < dat l s % 4294967296)) true := by
  have hx := dat_lt h s
  refine ⟨fun _ => ?_, fun e => by simp at e, by omega⟩
  rw [(high_32 l h s).1, (high_32 l h s).2, dat_drop hd]
  exact ⟨by omega, Iff.rfl⟩
theorem hi0_bad1 {l : List Nat} (h : dok l) {s : Nat} (hy : dat l (s + 1) ≠ 0) (q : Nat) (hq : q < 18446744073709551616) (r : Bool) : HiOk l (64 * s) q r false := by
  refine ⟨fun e => by simp at e, fun _ => ?_, hq⟩
  rw [(high_0 l h s).1, dval_drop]
  omega
theorem hi0_bad2 {l : List Nat} (h : dok l) {s t : Nat} (hk : s + 2 ≤ t) (ht : t < l.length) (hd : dat l t ≠ 0) : HiOk l (64 * s) 0 false false := by
  refine ⟨fun e => by simp at e, fun _ => ?_, by omega⟩
  have e : dval (l.drop (s + 1)) = dat l (s + 1) + 18446744073709551616 * dval (l.drop (s + 2)) := dval_drop l (s + 1)
  rw [(high_0 l h s).1, e]
  have := dat_big hk ht hd
  omega
theorem hi0_ok {l : List Nat} (h : dok l) {s : Nat} (hd : ∀ t, s + 2 ≤ t → t < l.length → dat l t = 0) (hy : dat l (s + 1) = 0) : HiOk l (64 * s) (dat l s) (dleft l s) true := by
  refine ⟨fun _ => ?_, fun e => by simp at e, dat_lt h s⟩
  have e : dval (l.drop (s + 1)) = dat l (s + 1) + 18446744073709551616 * dval (l.drop (s + 2)) := dval_drop l (s + 1)
  rw [(high_0 l h s).1, (high_0 l h s).2, e, dat_drop hd, hy]
  exact ⟨by omega, Iff.rfl⟩
theorem or_hi (x y : Nat) (hx : x < 18446744073709551616) : bits .or .u64 ((x : Int) / 4294967296) (IntKind.u64.wrap ((y : Int) * 4294967296)) = ((x / 4294967296 + (y % 4294967296) * 4294967296 : Nat) : Int) := by
  have e1 : (x : Int) / 4294967296 = ((x / 4294967296 : Nat) : Int) := by omega
  have e2 : IntKind.u64.wrap ((y : Int) * 4294967296) = (((y % 4294967296) * 4294967296 : Nat) : Int) := by
    rw [IntKind.wrap_u64]
    omega
  rw [e1, e2, bits_or_u64_nat _ _ (by omega) (by omega)]
  have h := Nat.two_pow_add_eq_or_of_lt (i := 32) (b := x / 4294967296) (by omega) (y % 4294967296)
  rw [Nat.or_comm, Nat.mul_comm (y % 4294967296), show (4294967296 : Nat) = 2 ^ 32 from rfl, ← h]
  omega
end Mnc
namespace Go.Proofs.YtmnccbhlllnlbaaGreat
open Go.RowKit Mnc

theorem dig_at (l : List Nat) (b cap A i : Nat) (w : World) (hA : w.cell? ⟨A, 0, none⟩ = some (.slice (some ⟨b, 0, none⟩) l.length cap)) (h : DgAt w b cap l) (_ : l.length ≤ 100) (_ : i ≤ 1000) :
    Calls Tryz.prog 126 #[.int .i64 (i : Int), .pointer (some ⟨A, 0, none⟩)] w fun e w' => e = .returned (.int .u64 (dat l i : Nat)) ∧ w = w' := by
  rcases Nat.lt_or_ge i l.length with hlt | hge
  · have c0 := h.cells i (l[i]) (List.getElem?_eq_getElem hlt)
    have e : dat l i = l[i] := by unfold dat; rw [List.getD_eq_getElem?_getD, List.getElem?_eq_getElem hlt]; rfl
    rw [← e] at c0
    generalize dat l i = x at *
    obtain ⟨n, hn⟩ : ∃ n, n = l.length := ⟨_, rfl⟩
    rw [← hn] at hA hlt
    clear h e hn
    go_enter Tryz.func126, Tryz.ntmps126
    go_wp2_with fail
    go_ret
    exact ⟨rfl, rfl⟩
  · have e : dat l i = 0 := by unfold dat; rw [List.getD_eq_getElem?_getD, List.getElem?_eq_none hge]; rfl
    rw [e]
    obtain ⟨n, hn⟩ : ∃ n, n = l.length := ⟨_, rfl⟩
    rw [← hn] at hA hge
    clear h e hn
    go_enter Tryz.func126, Tryz.ntmps126
    go_wp2_with fail
    go_ret
    exact ⟨rfl, rfl⟩

/-- What high's own memory holds: the box of the digits. -/
structure HiB (w W : World) (b cap : Nat) (l : List Nat) : Prop where
  bel : Below w.heap.size w W
  box : W.heap[w.heap.size]? = some (.cells #[.slice (some ⟨b, 0, none⟩) l.length cap] 126 (0, 0))
  dg : DgAt W b cap l
theorem HiB.start {w : World} {b cap : Nat} {l : List Nat} (h : DgAt w b cap l) : HiB w (w.alloc (.cells #[.slice (some ⟨b, 0, none⟩) l.length cap] 126)) b cap l :=
  ⟨below_alloc (Below.refl _ _) _, heap_at _ rfl, h.on (below_alloc (Below.refl _ _) _)⟩
theorem HiB.on {w W W' : World} {b cap : Nat} {l : List Nat} (h : HiB w W b cap l) (k : Below W.heap.size W W') : HiB w W' b cap l :=
  ⟨below_step h.bel k, (k.block _ (lt_of_block h.box)).trans h.box, h.dg.on k⟩
theorem HiB.atq {w W : World} {b cap : Nat} {l : List Nat} (h : HiB w W b cap l) (hl : l.length ≤ 100) {i : Nat} (hi : i ≤ 1000) (m : Nat) :
    Calls Tryz.prog 126 #[.int .i64 (i : Int), .pointer (some ⟨w.heap.size, 0, none⟩)] (W.drewN m) fun e w' => e = .returned (.int .u64 (dat l i : Nat)) ∧ w' = W.drewN m :=
  (dig_at l b cap _ i (W.drewN m) (cell_of_one (h.on (below_drewN (Below.refl _ _) m)).box) (h.on (below_drewN (Below.refl _ _) m)).dg hl hi).mono fun _ _ hh => ⟨hh.1, hh.2.symm⟩
theorem HiB.at {w W : World} {b cap : Nat} {l : List Nat} (h : HiB w W b cap l) (hl : l.length ≤ 100) {i : Nat} (hi : i ≤ 1000) :
    Calls Tryz.prog 126 #[.int .i64 (i : Int), .pointer (some ⟨w.heap.size, 0, none⟩)] W fun e w' => e = .returned (.int .u64 (dat l i : Nat)) ∧ W = w' :=
  dig_at l b cap _ i W (cell_of_one h.box) h.dg hl hi

set_option maxRecDepth 100000 in
set_option maxHeartbeats 2000000 in
theorem dig_high32 (l : List Nat) (N : Int) (s : Nat) (b cap : Nat) (w : World) (h : DgAt w b cap l) (hl : l.length ≤ 100) (hs : s ≤ 100) (hq : N.tdiv 64 = (s : Int)) (hr : N.tmod 64 = 32) :
    Calls Tryz.prog 115 #[.slice (some ⟨b, 0, none⟩) l.length cap, .int .i64 N] w fun e w' => HiEnd l (64 * s + 32) e ∧ Below w.heap.size w w' := by
  have HB := Lib.hid (HiB.start h)
  have HL := Lib.hid hl
  clear h
  obtain ⟨n, hn⟩ : ∃ n, n = l.length := ⟨_, rfl⟩
  have HN := Lib.hid hn
  rw [← hn] at hl ⊢
  have HB1 := HB
  rw [← hn] at HB1
  clear hn
  go_enter Tryz.func115, Tryz.ntmps115
  go_wp2_with fail
  go_simp
  go_loop [5, 18] (fun r i => ∃ k : Nat, k ≤ s ∧ i = .int .i64 k ∧ r = .bool (dleft l k)) (fun _ i => s - (intOf i).toNat)
  case atStart => exact ⟨0, by omega, rfl, rfl⟩
  case round =>
    obtain ⟨k, hk, rfl, rfl⟩ := hrel
    rcases Nat.lt_or_ge k s with hk' | hk'
    · have HA := Lib.hid (HB1.out.at HL.out (i := k) (by omega))
      have HX := Lib.hid (dleft_next l k)
      generalize dat l k = x at *
      cases hd : dleft l k with
      | true =>
        rw [hd] at HX
        go_wp2_with fail
        go_round
        case rel => exact ⟨k + 1, by omega, by go_num, by rw [HX.out]; simp⟩
        case measure => simp [intOf]; omega
      | false =>
        rw [hd] at HX
        go_wp2_with (go_at_call 126; refine HA.out.mono ?_; rintro e w' ⟨rfl, rfl⟩)
        go_round
        case rel => exact ⟨k + 1, by omega, by go_num, by rw [HX.out]; simp⟩
        case measure => simp [intOf]; omega
    · obtain rfl : k = s := by omega
      have HA0 := Lib.hid (fun m => HB1.out.atq HL.out (i := k) (by omega) m)
      have HA1 := Lib.hid (fun m => HB1.out.atq HL.out (i := k + 1) (by omega) m)
      generalize w.alloc (.cells #[.slice (some ⟨b, 0, none⟩) n cap] 126) = W at *
      obtain ⟨x, hx⟩ : ∃ x, x = dat l k := ⟨_, rfl⟩
      obtain ⟨y, hy⟩ : ∃ y, y = dat l (k + 1) := ⟨_, rfl⟩
      rw [← hx] at HA0
      rw [← hy] at HA1
      have ek : (((k + 1 : Nat)) : Int) = (k : Int) + 1 := by omega
      rw [ek] at HA1
      have HX := Lib.hid hx
      have HY := Lib.hid hy
      have HDg := HB.out.dg.ok
      have hxo : x < 18446744073709551616 := by rw [hx]; exact dat_lt HDg k
      have hyo : y < 18446744073709551616 := by rw [hy]; exact dat_lt HDg (k + 1)
      obtain ⟨r, hr8⟩ : ∃ r, r = dleft l k := ⟨_, rfl⟩
      rw [← hr8]
      have HR := Lib.hid hr8
      clear hr8 hx hy HDg
      go_wp2_with fail
      cases r with
      | true =>
        go_quiet (fail)
        have HB8 : Hid (HiB w (W.drewN nq) b cap l) := Lib.hid (HB1.out.on (below_drewN (Below.refl _ _) nq))
        have HA0 := Lib.hid (fun m => HB8.out.atq HL.out (i := k) (by omega) m)
        have HA1 := Lib.hid (fun m => HB8.out.atq HL.out (i := k + 1) (by omega) m)
        rw [← HX.out] at HA0
        rw [← HY.out, ek] at HA1
        generalize W.drewN nq = W8 at *
        go_wp2_with fail
        go_quiet (first | (go_at_call 126; with_reducible refine Calls.quiet_of_same (HA0.out _)) | (go_at_call 126; with_reducible refine Calls.quiet_of_same (HA1.out _)))
        have HB9 : Hid (HiB w (W8.drewN nq) b cap l) := Lib.hid (HB8.out.on (below_drewN (Below.refl _ _) nq))
        have HA1 := Lib.hid (HB9.out.at HL.out (i := k + 1) (by omega))
        rw [← HY.out, ek] at HA1
        generalize W8.drewN nq = W9 at *
        rw [or_hi x y hxo]
        obtain ⟨R, hR⟩ : ∃ R, R = true := ⟨_, rfl⟩
        have HRR : Hid (R = (dleft l k || decide (0 < dat l k % 4294967296))) := Lib.hid (by rw [hR, ← HR.out, Bool.true_or])
        rw [← hR]
        clear hR
        obtain ⟨q, hq⟩ : ∃ q, q = x / 4294967296 + (y % 4294967296) * 4294967296 := ⟨_, rfl⟩
        rw [← hq]
        have HQ := Lib.hid hq
        clear hq
        by_cases hy0 : y / 4294967296 = 0
        · have d0 : decide ((0 : Int) < (y : Int) / 4294967296) = false := by simp; omega
          have HY0 := Lib.hid hy0
          clear hy0
          go_wp2_with (go_at_call 126; refine HA1.out.mono ?_; rintro e w' ⟨rfl, rfl⟩)
          go_loop [4, 5, 11] (fun a c i => ∃ j : Nat, k + 2 ≤ j ∧ j ≤ 102 + n ∧ i = .int .i64 j ∧ a = .int .u64 q ∧ c = .bool R ∧ Hid (∀ t, k + 2 ≤ t → t < j → t < l.length → dat l t = 0)) (fun _ _ i => 1000 - (intOf i).toNat)
          case atStart => exact ⟨k + 2, by omega, by omega, by go_num, rfl, rfl, Lib.hid (fun t h1 h2 => by omega)⟩
          case round =>
            obtain ⟨j, hj1, hj2, rfl, rfl, rfl, HJ⟩ := hrel
            have b0 := cell_of_one HB9.out.box
            rw [← HN.out] at b0
            rcases Nat.lt_or_ge j n with hj' | hj'
            · obtain ⟨z, hz⟩ : ∃ z, z = dat l j := ⟨_, rfl⟩
              have c0 := HB9.out.dg.cells j z (by rw [hz]; unfold dat; rw [List.getD_eq_getElem?_getD, List.getElem?_eq_getElem (by rw [← HN.out]; exact hj')]; rfl)
              have HZ := Lib.hid hz
              clear hz
              by_cases hz0 : z = 0
              · subst hz0
                go_wp2_with fail
                go_round
                case rel => exact ⟨j + 1, by omega, by omega, by go_num, rfl, rfl, Lib.hid (fun t h1 h2 h3 => by
                    rcases Nat.lt_or_ge t j with h | h
                    · exact HJ.out t h1 h h3
                    · rw [show t = j by omega]; exact HZ.out.symm)⟩
                case measure => simp [intOf]; omega
              · have d1 : decide ((0 : Int) < (z : Int)) = true := by simp; omega
                have HZ0 := Lib.hid hz0
                clear hz0
                go_wp2_with fail
                refine bodyPost_ret (v := .tuple #[.int .u64 0, .bool false, .bool false]) (by simp [results, Tryz.results115, go_sem]) rfl ?_
                exact ⟨HiEnd.mk (hi32_bad2 HB9.out.dg.ok hj1 (by rw [← HN.out]; exact hj') (by rw [← HZ.out]; exact HZ0.out)), HB9.out.bel⟩
                exfalso
                have := HZ0.out
                omega
            · go_wp2_with fail
              refine bodyPost_ret (v := .tuple #[.int .u64 (q : Int), .bool R, .bool true]) (by simp [results, Tryz.results115, go_sem]) rfl ?_
              refine ⟨HiEnd.mk ?_, HB9.out.bel⟩
              rw [HQ.out, HRR.out, HX.out, HY.out]
              exact hi32_ok HB9.out.dg.ok (fun t h1 h2 => HJ.out t h1 (by have := HN.out; omega) h2) (by rw [← HY.out]; exact HY0.out)
        · have d0 : decide ((0 : Int) < (y : Int) / 4294967296) = true := by simp; omega
          have HY0 := Lib.hid hy0
          clear hy0
          go_wp2_with (go_at_call 126; refine HA1.out.mono ?_; rintro e w' ⟨rfl, rfl⟩)
          refine bodyPost_ret (v := .tuple #[.int .u64 0, .bool false, .bool false]) (by simp [results, Tryz.results115, go_sem]) rfl ?_
          exact ⟨HiEnd.mk (hi32_bad1 HB9.out.dg.ok (by rw [← HY.out]; exact HY0.out)), HB9.out.bel⟩
      | false =>
        go_quiet (first | (go_at_call 126; with_reducible refine Calls.quiet_of_same (HA0.out _)) | (go_at_call 126; with_reducible refine Calls.quiet_of_same (HA1.out _)))
        have HB8 : Hid (HiB w (W.drewN nq) b cap l) := Lib.hid (HB1.out.on (below_drewN (Below.refl _ _) nq))
        have HA0 := Lib.hid (fun m => HB8.out.atq HL.out (i := k) (by omega) m)
        have HA1 := Lib.hid (fun m => HB8.out.atq HL.out (i := k + 1) (by omega) m)
        rw [← HX.out] at HA0
        rw [← HY.out, ek] at HA1
        generalize W.drewN nq = W8 at *
        go_wp2_with fail
        go_quiet (first | (go_at_call 126; with_reducible refine Calls.quiet_of_same (HA0.out _)) | (go_at_call 126; with_reducible refine Calls.quiet_of_same (HA1.out _)))
        have HB9 : Hid (HiB w (W8.drewN nq) b cap l) := Lib.hid (HB8.out.on (below_drewN (Below.refl _ _) nq))
        have HA1 := Lib.hid (HB9.out.at HL.out (i := k + 1) (by omega))
        rw [← HY.out, ek] at HA1
        generalize W8.drewN nq = W9 at *
        rw [or_hi x y hxo]
        rw [M64.maskN x hxo]
        obtain ⟨R, hR⟩ : ∃ R, R = decide ((0 : Int) < ((x % 4294967296 : Nat) : Int)) := ⟨_, rfl⟩
        rw [← hR]
        have HRR : Hid (R = (dleft l k || decide (0 < dat l k % 4294967296))) := Lib.hid (by rw [hR, ← HR.out, ← HX.out, Bool.false_or, Bool.eq_iff_iff]; simp only [decide_eq_true_eq]; omega)
        clear hR
        obtain ⟨q, hq⟩ : ∃ q, q = x / 4294967296 + (y % 4294967296) * 4294967296 := ⟨_, rfl⟩
        rw [← hq]
        have HQ := Lib.hid hq
        clear hq
        by_cases hy0 : y / 4294967296 = 0
        · have d0 : decide ((0 : Int) < (y : Int) / 4294967296) = false := by simp; omega
          have HY0 := Lib.hid hy0
          clear hy0
          go_wp2_with (go_at_call 126; refine HA1.out.mono ?_; rintro e w' ⟨rfl, rfl⟩)
          go_loop [4, 5, 11] (fun a c i => ∃ j : Nat, k + 2 ≤ j ∧ j ≤ 102 + n ∧ i = .int .i64 j ∧ a = .int .u64 q ∧ c = .bool R ∧ Hid (∀ t, k + 2 ≤ t → t < j → t < l.length → dat l t = 0)) (fun _ _ i => 1000 - (intOf i).toNat)
          case atStart => exact ⟨k + 2, by omega, by omega, by go_num, rfl, rfl, Lib.hid (fun t h1 h2 => by omega)⟩
          case round =>
            obtain ⟨j, hj1, hj2, rfl, rfl, rfl, HJ⟩ := hrel
            have b0 := cell_of_one HB9.out.box
            rw [← HN.out] at b0
            rcases Nat.lt_or_ge j n with hj' | hj'
            · obtain ⟨z, hz⟩ : ∃ z, z = dat l j := ⟨_, rfl⟩
              have c0 := HB9.out.dg.cells j z (by rw [hz]; unfold dat; rw [List.getD_eq_getElem?_getD, List.getElem?_eq_getElem (by rw [← HN.out]; exact hj')]; rfl)
              have HZ := Lib.hid hz
              clear hz
              by_cases hz0 : z = 0
              · subst hz0
                go_wp2_with fail
                go_round
                case rel => exact ⟨j + 1, by omega, by omega, by go_num, rfl, rfl, Lib.hid (fun t h1 h2 h3 => by
                    rcases Nat.lt_or_ge t j with h | h
                    · exact HJ.out t h1 h h3
                    · rw [show t = j by omega]; exact HZ.out.symm)⟩
                case measure => simp [intOf]; omega
              · have d1 : decide ((0 : Int) < (z : Int)) = true := by simp; omega
                have HZ0 := Lib.hid hz0
                clear hz0
                go_wp2_with fail
                refine bodyPost_ret (v := .tuple #[.int .u64 0, .bool false, .bool false]) (by simp [results, Tryz.results115, go_sem]) rfl ?_
                exact ⟨HiEnd.mk (hi32_bad2 HB9.out.dg.ok hj1 (by rw [← HN.out]; exact hj') (by rw [← HZ.out]; exact HZ0.out)), HB9.out.bel⟩
                exfalso
                have := HZ0.out
                omega
            · go_wp2_with fail
              refine bodyPost_ret (v := .tuple #[.int .u64 (q : Int), .bool R, .bool true]) (by simp [results, Tryz.results115, go_sem]) rfl ?_
              refine ⟨HiEnd.mk ?_, HB9.out.bel⟩
              rw [HQ.out, HRR.out, HX.out, HY.out]
              exact hi32_ok HB9.out.dg.ok (fun t h1 h2 => HJ.out t h1 (by have := HN.out; omega) h2) (by rw [← HY.out]; exact HY0.out)
        · have d0 : decide ((0 : Int) < (y : Int) / 4294967296) = true := by simp; omega
          have HY0 := Lib.hid hy0
          clear hy0
          go_wp2_with (go_at_call 126; refine HA1.out.mono ?_; rintro e w' ⟨rfl, rfl⟩)
          refine bodyPost_ret (v := .tuple #[.int .u64 0, .bool false, .bool false]) (by simp [results, Tryz.results115, go_sem]) rfl ?_
          exact ⟨HiEnd.mk (hi32_bad1 HB9.out.dg.ok (by rw [← HY.out]; exact HY0.out)), HB9.out.bel⟩
end Go.Proofs.YtmnccbhlllnlbaaGreat
