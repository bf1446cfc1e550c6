/- Rows of digits to the base 65536 of the reference of layer 2; its parts. Printed by wip/genRP.py. -/
import Derived.Test.YtmnccbhlllnlbaaGreatRefSE
import Derived.Test.YtmnccbhlllnlbaaGreatPowA
namespace Mnc
open Go
/-- Digits to the base 65536, the least significant one first. -/
def iok (l : List Nat) : Prop := ∀ x ∈ l, x < 65536
def ival : List Nat → Nat
  | [] => 0
  | x :: l => x + 65536 * ival l
theorem ival_append (l m : List Nat) : ival (l ++ m) = ival l + 65536 ^ l.length * ival m := by
  induction l with
  | nil => simp [ival]
  | cons x l ih =>
    simp only [List.cons_append, ival, ih, List.length_cons, Nat.pow_succ, Nat.mul_add]
    rw [Nat.mul_comm (65536 ^ l.length) 65536, Nat.mul_assoc, Nat.add_assoc]
theorem iok_append {l m : List Nat} (h : iok l) (k : iok m) : iok (l ++ m) := fun x hx => by
  rcases List.mem_append.1 hx with hx | hx
  · exact h x hx
  · exact k x hx
/-- What parts has done when v is left of V. -/
structure PtAt (V v : Nat) (l : List Nat) : Prop where
  ok : iok l
  val : ival l + 65536 ^ l.length * v = V
theorem ptAt_start (V : Nat) : PtAt V V [] := ⟨(fun _ h => by cases h), by simp [ival]⟩
theorem ptAt_next {V v : Nat} {l : List Nat} (h : PtAt V v l) : PtAt V (v / 65536) (l ++ [v % 65536]) where
  ok := iok_append h.ok (fun x hx => by rw [List.mem_singleton] at hx; omega)
  val := by
    rw [ival_append, ← h.val]
    simp only [ival, Nat.mul_zero, Nat.add_zero, List.length_append, List.length_cons, List.length_nil, Nat.zero_add, Nat.pow_succ, Nat.add_assoc]
    congr 1
    rw [Nat.mul_assoc, ← Nat.mul_add]
    congr 1
    omega
theorem ptAt_len {V v : Nat} {l : List Nat} (h : PtAt V v l) (hV : V ≤ 4503599627370496) (hv : 0 < v) : l.length ≤ 3 := by
  apply Nat.le_of_not_lt
  intro hl
  have h1 : 65536 ^ 4 ≤ 65536 ^ l.length := Nat.pow_le_pow_right (by decide) hl
  have h2 : 65536 ^ l.length * 1 ≤ 65536 ^ l.length * v := Nat.mul_le_mul_left _ hv
  have := h.val
  have e : (65536 ^ 4 : Nat) = 18446744073709551616 := by decide
  omega
end Mnc
namespace Go.Proofs.YtmnccbhlllnlbaaGreat
open Go.RowKit Mnc

theorem i64Info : (Tryz.prog.info? 3).map (fun i => (i.zero, i.size, i.bytes)) = some (some (.int .i64 0), 1, 8) := by kernel_rfl
theorem i64_parts : ∃ i0, Tryz.prog.info? 3 = some i0 ∧ i0.zero = some (.int .i64 0) ∧ i0.size = 1 ∧ i0.bytes = 8 := by
  have h := i64Info
  rw [Option.map_eq_some_iff] at h
  obtain ⟨i, h1, h2⟩ := h
  simp only [Prod.mk.injEq] at h2
  exact ⟨i, h1, h2.1, h2.2.1, h2.2.2⟩
theorem addr_plainI (g off j : Nat) : (⟨g, off, none⟩ : Addr).add j = ⟨g, off + j, none⟩ := by
  unfold Addr.add
  split <;> simp_all
def encI (x : Nat) : Value := .int .i64 (x : Int)

/-- The digits that a slice shows. -/
structure IgAt (W : World) (b cap : Nat) (l : List Nat) : Prop where
  le : l.length ≤ cap
  cmax : cap ≤ maxLen
  lt : b < W.heap.size
  ok : iok l
  cells : ∀ i (x : Nat), l[i]? = some x → W.cell? ⟨b, i, none⟩ = some (.int .i64 (x : Int))
theorem IgAt.on {W W' : World} {b cap : Nat} {l : List Nat} (h : IgAt W b cap l) (k : Below W.heap.size W W') : IgAt W' b cap l :=
  ⟨h.le, h.cmax, Nat.lt_of_lt_of_le h.lt k.size, h.ok, fun i x hx => (k.cell (p := ⟨b, i, none⟩) h.lt).trans (h.cells i x hx)⟩

/-- A row of digits of the call's own. -/
structure IgB (n₀ : Nat) (W : World) (g cap : Nat) (L : List Nat) : Prop where
  own : W.ownsRow n₀ 3 1 (.slice (some ⟨g, 0, none⟩) L.length cap) L.length (L.map encI)
theorem IgB.lt {n₀ : Nat} {W : World} {g cap : Nat} {L : List Nat} (h : IgB n₀ W g cap L) : n₀ ≤ g ∧ g < W.heap.size := h.own.lt g rfl
theorem IgB.caps {n₀ : Nat} {W : World} {g cap : Nat} {L : List Nat} (h : IgB n₀ W g cap L) : L.length ≤ cap ∧ cap ≤ maxLen := by
  rcases h.own.2 with ⟨h', _⟩ | ⟨g', cap', cur, h', _, _, h1, h2, _⟩
  · simp at h'
  · simp only [Value.slice.injEq, Option.some.injEq, Addr.mk.injEq, and_true, true_and] at h'
    obtain ⟨rfl, rfl⟩ := h'
    exact ⟨h1, h2⟩
theorem IgB.on {n₀ : Nat} {W W' : World} {g cap : Nat} {L : List Nat} (h : IgB n₀ W g cap L) (k : Below W.heap.size W W') : IgB n₀ W' g cap L where
  own := by
    have hlt := h.lt.2
    refine ⟨h.own.1, ?_⟩
    rcases h.own.2 with ⟨h', _⟩ | ⟨g', cap', cur, h', hb, hg, hr⟩
    · simp at h'
    · have e := h'
      simp only [Value.slice.injEq, Option.some.injEq, Addr.mk.injEq, and_true, true_and] at e
      obtain ⟨rfl, rfl⟩ := e
      exact .inr ⟨g, cap, cur, rfl, hb, (k.block _ hlt).trans hg, hr⟩
theorem IgB.at {n₀ : Nat} {W : World} {g cap i x : Nat} {L : List Nat} (h : IgB n₀ W g cap L) (hx : L[i]? = some x) : W.cell? ⟨g, i, none⟩ = some (.int .i64 (x : Int)) := by
  have hi := (List.getElem?_eq_some_iff.1 hx).1
  rw [h.own.cellAt i (by omega), List.getElem?_map, hx]
  rfl
theorem IgB.dg {n₀ : Nat} {W : World} {g cap : Nat} {L : List Nat} (h : IgB n₀ W g cap L) (ho : iok L) : IgAt W g cap L :=
  ⟨h.caps.1, h.caps.2, h.lt.2, ho, fun _ _ hx => h.at hx⟩
theorem IgB.free {n₀ : Nat} {W : World} {g cap : Nat} {L : List Nat} (h : IgB n₀ W g cap L) (i : Nat) : W.frozen? ⟨g, i, none⟩ = false := by
  rcases h.own.2 with ⟨h', _⟩ | ⟨g', cap', cur, h', _, hg, _⟩
  · simp at h'
  · simp only [Value.slice.injEq, Option.some.injEq, Addr.mk.injEq, and_true, true_and] at h'
    obtain ⟨rfl, rfl⟩ := h'
    simp [World.frozen?, hg]
theorem IgB.set {n₀ : Nat} {W : World} {g cap i x : Nat} {L : List Nat} (h : IgB n₀ W g cap L) (_ : i < L.length) : IgB n₀ (W.setCell ⟨g, i, none⟩ (.int .i64 (x : Int))) g cap (L.set i x) where
  own := by
    rw [List.length_set]
    refine ⟨by simp, ?_⟩
    rcases h.own.2 with ⟨h', _⟩ | ⟨g', cap', cur, h', hb, hg, h1, h2, h3, h4⟩
    · simp at h'
    · have e := h'
      simp only [Value.slice.injEq, Option.some.injEq, Addr.mk.injEq, and_true, true_and] at e
      obtain ⟨rfl, rfl⟩ := e
      refine .inr ⟨g, cap, _, rfl, hb, heap_setCell_same _ _ _ _ _ _ hg, h1, h2, by simpa using h3, ?_⟩
      rw [List.map_set, ← h4]
      simp [List.take_set, encI]


/-- What lies when parts has made the digits l: nothing yet, or a row of its own. -/
def RowI (n₀ : Nat) (W : World) (v : Value) (l : List Nat) : Prop := (v = .slice none 0 0 ∧ l = []) ∨ ∃ g c : Nat, v = .slice (some ⟨g, 0, none⟩) l.length c ∧ IgB n₀ W g c l
theorem RowI.row {n₀ : Nat} {W : World} {v : Value} {l : List Nat} (h : RowI n₀ W v l) : W.ownsRow n₀ 3 1 v l.length (l.map encI) := by
  rcases h with ⟨rfl, rfl⟩ | ⟨g, c, rfl, hb⟩
  · exact World.ownsRow_nil _ _ _ _
  · exact hb.own
theorem RowI.low {n₀ k : Nat} {W : World} {v : Value} {l : List Nat} (h : RowI n₀ W v l) (hk : v.ownBlock = some k) : n₀ ≤ k := by
  rcases h with ⟨rfl, rfl⟩ | ⟨g, c, rfl, hb⟩
  · cases hk
  · simp [Value.ownBlock] at hk
    have := hb.lt
    omega
set_option maxRecDepth 100000 in
set_option maxHeartbeats 2000000 in
theorem ref2_parts (V : Nat) (hV : V ≤ 4503599627370496) (w : World) :
    Calls Tryz.prog 120 #[.int .i64 (V : Int)] w fun e w' => ∃ v l, e = .returned v ∧ RowI w.heap.size w' v l ∧ iok l ∧ ival l = V ∧ l.length ≤ 4 ∧ Below w.heap.size w w' := by
  obtain ⟨i0, hi, hz0, hz1, hz2⟩ := i64_parts
  have HV := Lib.hid hV
  go_enter Tryz.func120, Tryz.ntmps120
  go_wp2_with fail
  go_loopw [0, 3] (fun a b wr => ∃ (v : Nat) (l : List Nat), a = .int .i64 (v : Int) ∧ v ≤ V ∧ Hid (RowI w.heap.size wr b l ∧ PtAt V v l ∧ l.length ≤ 4 ∧ Below w.heap.size w wr)) (fun a _ _ => (intOf a).toNat)
  case atStart => exact ⟨V, [], rfl, Nat.le_refl _, Lib.hid ⟨.inl ⟨rfl, rfl⟩, ptAt_start V, by simp, Below.refl _ _⟩⟩
  case round =>
    obtain ⟨v, l, rfl, hv, HI⟩ := hrel
    have hv2 : (v : Int) ≤ 4503599627370496 := by omega
    rcases Nat.eq_zero_or_pos v with h0 | h0
    · subst h0
      go_wp2_with fail
      go_ret
      exact ⟨_, l, rfl, HI.out.1, HI.out.2.1.ok, by have := HI.out.2.1.val; simpa using this, HI.out.2.2.1, HI.out.2.2.2⟩
    · have hlen := ptAt_len HI.out.2.1 HV.out h0
      have HX := Lib.hid (ptAt_next HI.out.2.1)
      obtain ⟨X, hX⟩ : ∃ X, X = v % 65536 := ⟨_, rfl⟩
      obtain ⟨Y, hY⟩ : ∃ Y, Y = v / 65536 := ⟨_, rfl⟩
      rw [← hX, ← hY] at HX
      have e1 : (v : Int) % 65536 = (X : Int) := by omega
      have e2 : (v : Int) / 65536 = (Y : Int) := by omega
      have hYv : Y < v := by omega
      clear hX hY
      have hown := HI.out.1.row
      have hB := HI.out.2.2.2
      obtain ⟨n, hn⟩ : ∃ n, n = l.length := ⟨_, rfl⟩
      rw [← hn] at hown hlen
      have HN := Lib.hid hn
      clear hn
      go_wp2_with (at_builtin; refine wpList_append_own _ rfl _ _ 131 rfl w.heap.size 3 i0 (.int .i64 0) 1 8 Tryz.underlying131 hi hz0 hz1 hz2 rfl (by decide) _ _ _ rfl (hown.alloc (.cells #[.int .i64 (X : Int)] 3)) ⟨wr.heap.size, 0, none⟩ 1 1 [.int .i64 (X : Int)] rfl ?qc1 ?qc2 ?qc3 ?qc4 ?qc5 ?qc6 ?_)
      case qc1 => rfl
      case qc2 =>
        intro j u hu
        match j, hu with
        | 0, hu =>
          simp at hu
          subst hu
          rw [addr_plainI]
          exact cell_of_one (heap_at _ rfl)
      case qc3 =>
        intro u hu
        simp at hu
        subst hu
        rfl
      case qc4 => unfold maxLen; omega
      case qc5 => omega
      case qc6 =>
        have := hB.size
        simp
        omega
      intro v' w1 hown2 hgrow hnil
      obtain ⟨g2, c2, rfl⟩ := ownsRow_succ hown2
      have HB2 : Hid (Below w.heap.size w w1) := Lib.hid ((hB.alloc (by have := hB.size; omega) _).grown hgrow (by have := hB.size; simp; omega) (fun k hk => HI.out.1.low hk))
      have HR : Hid (RowI w.heap.size w1 (.slice (some ⟨g2, 0, none⟩) (n + 1) c2) (l ++ [X])) := Lib.hid (.inr ⟨g2, c2, by rw [List.length_append, ← HN.out]; rfl, ⟨by rw [List.length_append, ← HN.out, List.map_append]; exact hown2⟩⟩)
      clear hown2 hgrow hnil hown hB
      go_wp2_with fail
      go_roundw
      case rel => exact ⟨Y, l ++ [X], rfl, by omega, Lib.hid ⟨HR.out, HX.out, by rw [List.length_append, ← HN.out]; simp; omega, HB2.out⟩⟩
      case measure => simp [intOf]; omega
end Go.Proofs.YtmnccbhlllnlbaaGreat
