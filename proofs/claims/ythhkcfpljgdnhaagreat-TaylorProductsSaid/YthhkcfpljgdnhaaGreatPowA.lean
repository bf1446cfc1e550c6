/- Contracts of package span: clone of digits, times, and a digit at a place. -/
import Derived.Laws.Externs
import Derived.Laws.OwnMore
import Derived.RangeFuncBox
import Derived.Test.YthhkcfpljgdnhaaGreatSpanH
import Derived.Test.YthhkcfpljgdnhaaGreatPowPlain
namespace Go.Proofs.YthhkcfpljgdnhaaGreat
open Go.RowKit Mnc

theorem u64Info : (Tryz.prog.info? 112).map (fun i => (i.zero, i.size, i.bytes)) = some (some (.int .u64 0), 1, 8) := by kernel_rfl
theorem u64_parts : ∃ i0, Tryz.prog.info? 112 = some i0 ∧ i0.zero = some (.int .u64 0) ∧ i0.size = 1 ∧ i0.bytes = 8 := by
 have h := u64Info
 rw [Option.map_eq_some_iff] at h
 obtain ⟨i, h1, h2⟩ := h
 simp only [Prod.mk.injEq] at h2
 exact ⟨i, h1, h2.1, h2.2.1, h2.2.2⟩
theorem addr_plain (g off j : Nat) : (⟨g, off, none⟩ : Addr).add j = ⟨g, off + j, none⟩ := by
 unfold Addr.add
 split <;> simp_all
def encU (x : Nat) : Value := .int .u64 (x : Int)

/-- The digits that a slice shows. -/
structure DgAt (W : World) (b cap : Nat) (l : List Nat) : Prop where
 le : l.length ≤ cap
 cmax : cap ≤ maxLen
 lt : b < W.heap.size
 ok : dok l
 cells : ∀ i (x : Nat), l[i]? = some x → W.cell? ⟨b, i, none⟩ = some (.int .u64 (x : Int))
theorem DgAt.on {W W' : World} {b cap : Nat} {l : List Nat} (h : DgAt W b cap l) (k : Below W.heap.size W W') : DgAt W' b cap l :=
 ⟨h.le, h.cmax, Nat.lt_of_lt_of_le h.lt k.size, h.ok, fun i x hx => (k.cell (p := ⟨b, i, none⟩) h.lt).trans (h.cells i x hx)⟩

/-- A row of digits of the call's own. -/
structure DgB (n₀ : Nat) (W : World) (g cap : Nat) (L : List Nat) : Prop where
 own : W.ownsRow n₀ 112 1 (.slice (some ⟨g, 0, none⟩) L.length cap) L.length (L.map encU)
theorem DgB.lt {n₀ : Nat} {W : World} {g cap : Nat} {L : List Nat} (h : DgB n₀ W g cap L) : n₀ ≤ g ∧ g < W.heap.size := h.own.lt g rfl
theorem DgB.caps {n₀ : Nat} {W : World} {g cap : Nat} {L : List Nat} (h : DgB n₀ W g cap L) : L.length ≤ cap ∧ cap ≤ maxLen := by
 rcases h.own.2 with ⟨h', _⟩ | ⟨g', cap', cur, h', _, _, h1, h2, _⟩
 ·simp at h'
 ·simp only [Value.slice.injEq, Option.some.injEq, Addr.mk.injEq, and_true, true_and] at h'
  obtain ⟨rfl, rfl⟩ := h'
  exact ⟨h1, h2⟩
theorem DgB.on {n₀ : Nat} {W W' : World} {g cap : Nat} {L : List Nat} (h : DgB n₀ W g cap L) (k : Below W.heap.size W W') : DgB n₀ W' g cap L where
 own := by
  have hlt := h.lt.2
  refine ⟨h.own.1, ?_⟩
  rcases h.own.2 with ⟨h', _⟩ | ⟨g', cap', cur, h', hb, hg, hr⟩
  ·simp at h'
  ·have e := h'
   simp only [Value.slice.injEq, Option.some.injEq, Addr.mk.injEq, and_true, true_and] at e
   obtain ⟨rfl, rfl⟩ := e
   exact .inr ⟨g, cap, cur, rfl, hb, (k.block _ hlt).trans hg, hr⟩
theorem DgB.at {n₀ : Nat} {W : World} {g cap i x : Nat} {L : List Nat} (h : DgB n₀ W g cap L) (hx : L[i]? = some x) : W.cell? ⟨g, i, none⟩ = some (.int .u64 (x : Int)) := by
 have hi := (List.getElem?_eq_some_iff.1 hx).1
 rw [h.own.cellAt i (by omega), List.getElem?_map, hx]
 rfl
theorem DgB.dg {n₀ : Nat} {W : World} {g cap : Nat} {L : List Nat} (h : DgB n₀ W g cap L) (ho : dok L) : DgAt W g cap L :=
 ⟨h.caps.1, h.caps.2, h.lt.2, ho, fun _ _ hx => h.at hx⟩
theorem DgB.free {n₀ : Nat} {W : World} {g cap : Nat} {L : List Nat} (h : DgB n₀ W g cap L) (i : Nat) : W.frozen? ⟨g, i, none⟩ = false := by
 rcases h.own.2 with ⟨h', _⟩ | ⟨g', cap', cur, h', _, hg, _⟩
 ·simp at h'
 ·simp only [Value.slice.injEq, Option.some.injEq, Addr.mk.injEq, and_true, true_and] at h'
  obtain ⟨rfl, rfl⟩ := h'
  simp [World.frozen?, hg]
theorem DgB.set {n₀ : Nat} {W : World} {g cap i x : Nat} {L : List Nat} (h : DgB n₀ W g cap L) (_ : i < L.length) : DgB n₀ (W.setCell ⟨g, i, none⟩ (.int .u64 (x : Int))) g cap (L.set i x) where
 own := by
  rw [List.length_set]
  refine ⟨by simp, ?_⟩
  rcases h.own.2 with ⟨h', _⟩ | ⟨g', cap', cur, h', hb, hg, h1, h2, h3, h4⟩
  ·simp at h'
  ·have e := h'
   simp only [Value.slice.injEq, Option.some.injEq, Addr.mk.injEq, and_true, true_and] at e
   obtain ⟨rfl, rfl⟩ := e
   refine .inr ⟨g, cap, _, rfl, hb, heap_setCell_same _ _ _ _ _ _ hg, h1, h2, by simpa using h3, ?_⟩
   rw [List.map_set, ← h4]
   simp [List.take_set, encU]

theorem clone_digits (l : List Nat) (b cap : Nat) (w : World) (h : DgAt w b cap l) (hl : l.length ≤ 1000) :
  Calls Tryz.prog 107 #[.slice (some ⟨b, 0, none⟩) l.length cap] w fun e w' => ∃ g c, e = .returned (.slice (some ⟨g, 0, none⟩) l.length c) ∧ DgB w.heap.size w' g c l ∧ Below w.heap.size w w' := by
 obtain ⟨i0, hi, hz0, hz1, hz2⟩ := u64_parts
 have q22 : ∀ (w : World) (a : Option Addr) (n c n' c' : Nat), (binOp .eql 114 (.slice a n c) (.slice none n' c')).run Tryz.prog w = .ok (.bool a.isNone) w := fun w a n c n' c' => Lib.run_eql_slice_nil w _ _ a n c n' c' Tryz.underlying114
 have hcells := Lib.hid (h.on (below_alloc (Below.refl w.heap.size w) (.cells #[] 112)))
 have HL := Lib.hid hl
 clear h
 obtain ⟨n, hn⟩ : ∃ n, n = l.length := ⟨_, rfl⟩
 have HN := Lib.hid hn
 rw [← hn] at HL hl ⊢
 clear hn
 go_enter Tryz.func107, Tryz.ntmps107
 go_wp2_with (at_builtin; refine wpList_append_own _ rfl _ _ 114 rfl w.heap.size 112 i0 (.int .u64 0) 1 8 Tryz.underlying114 hi hz0 hz1 hz2 rfl (by decide) _ _ _ rfl (World.ownsRow_made w #[] 0 (Nat.le_refl _) (Nat.zero_le _) rfl) ⟨b, 0, none⟩ n cap (l.map encU) rfl ?qc1 ?qc2 ?qc3 ?qc4 ?qc5 ?qc6 ?_)
 case qc1 => simp [HN.out]
 case qc2 =>
  intro j u hu
  rw [List.getElem?_map, Option.map_eq_some_iff] at hu
  obtain ⟨x, hx, rfl⟩ := hu
  rw [addr_plain, Nat.zero_add]
  exact hcells.out.cells j x hx
 case qc3 =>
  intro u hu
  obtain ⟨x, _, rfl⟩ := List.mem_map.1 hu
  rfl
 case qc4 => unfold maxLen; omega
 case qc5 => omega
 case qc6 => simp
 intro v' w1 hown hgrow hnil
 go_wp2
 go_ret
 obtain ⟨g, c, rfl⟩ : ∃ g c, v' = .slice (some ⟨g, 0, none⟩) n c := by
  rcases hown.2 with ⟨h', _⟩ | ⟨g', cap', cur, h', _⟩
  ·exact absurd h' hnil
  ·exact ⟨g', cap', h'⟩
 refine ⟨g, c, rfl, ⟨?_⟩, ?_⟩
 ·rw [← HN.out]
  simpa using hown
 ·exact ((Below.refl _ w).alloc (Nat.le_refl _) _).grown hgrow (by simp) (by intro k hk; simp [Value.ownBlock] at hk; omega)

theorem bits_Add64 (x y : Nat) (w : World) : (callFunc 109 #[.int .u64 (x : Int), .int .u64 (y : Int), .int .u64 0]).run Tryz.prog w = .ok (.value (.tuple #[.int .u64 (((x + y) % 18446744073709551616 : Nat) : Int), .int .u64 (((x + y) / 18446744073709551616 : Nat) : Int)])) w := by
 rw [run_callFunc_extern Tryz.func109 (by kernel_rfl) (by kernel_rfl) (by kernel_rfl) (e := add64Entry) (by kernel_rfl), run_add64 x y 0 (by omega) (by omega) (by omega) (by omega)]
 simp only [Result.andThen]
 congr 5 <;> omega

theorem set_midN {acc t : List Nat} {x y : Nat} {k : Nat} (h : acc.length = k) : (acc ++ x :: t).set k y = (acc ++ [y]) ++ t := by
 subst h
 simp
theorem drop_atN {l : List Nat} {k : Nat} {x : Nat} (h : l[k]? = some x) : l.drop k = x :: l.drop (k + 1) := by
 obtain ⟨hk, rfl⟩ := List.getElem?_eq_some_iff.1 h
 exact List.drop_eq_getElem_cons hk
theorem tm_parts {x n c : Nat} : (x * n % 18446744073709551616 + c) % 18446744073709551616 = (x * n + c) % 18446744073709551616 ∧ x * n / 18446744073709551616 + (x * n % 18446744073709551616 + c) / 18446744073709551616 = (x * n + c) / 18446744073709551616 := by
 generalize x * n = y
 omega

set_option maxRecDepth 100000 in
set_option maxHeartbeats 2000000 in
theorem dig_times (l : List Nat) (m : Nat) (b cap : Nat) (w : World) (h : DgAt w b cap l) (hl : l.length ≤ 100) (hm : m < 18446744073709551616) :
  Calls Tryz.prog 94 #[.slice (some ⟨b, 0, none⟩) l.length cap, .int .u64 (m : Int)] w fun e w' => ∃ g c L, e = .returned (.slice (some ⟨g, 0, none⟩) (l.length + 1) c) ∧ L.length = l.length + 1 ∧ dok L ∧ dval L = dval l * m ∧ DgB w.heap.size w' g c L ∧ Below w.heap.size w w' := by
 obtain ⟨i0, hi, hz0, hz1, hz2⟩ := u64_parts
 have hok := h.ok
 have HOK := Lib.hid hok
 have HCl := Lib.hid (clone_digits l b cap w h (by omega))
 clear h hok
 have HM := Lib.hid hm
 obtain ⟨n, hn⟩ : ∃ n, n = l.length := ⟨_, rfl⟩
 have HN := Lib.hid hn
 rw [← hn] at HCl hl ⊢
 clear hn
 go_enter Tryz.func94, Tryz.ntmps94
 go_wp2_with fail
 refine HCl.out.mono ?_
 rintro e w2 ⟨g, capd, rfl, hown, hbel⟩
 have HD : Hid (DgB w.heap.size w2 g capd l ∧ Below w.heap.size w w2) := Lib.hid ⟨hown, hbel⟩
 clear hown hbel
 go_wp2_with fail
 go_simp
 go_loopw [6, 17] (fun cv i wr => ∃ k c : Nat, k ≤ n ∧ i = .int .i64 k ∧ cv = .int .u64 c ∧ ∃ acc : List Nat, Hid (TmAt l m acc c k ∧ DgB w.heap.size wr g capd (acc ++ l.drop k) ∧ Below w.heap.size w wr)) (fun _ i _ => n - (intOf i).toNat)
 case atStart => exact ⟨0, 0, by omega, rfl, rfl, [], Lib.hid ⟨tmAt_start _ _, HD.out.1, HD.out.2⟩⟩
 case round =>
  clear HD
  obtain ⟨k, c, hk, rfl, rfl, acc, HI⟩ := hrel
  rcases Nat.lt_or_ge k n with hk' | hk'
  ·obtain ⟨x, hx⟩ : ∃ x, l[k]? = some x := ⟨_, List.getElem?_eq_getElem (by rw [← HN.out]; exact hk')⟩
   have hxo : x < 18446744073709551616 := HOK.out x (List.mem_of_getElem? hx)
   have HD : Hid (l.drop k = x :: l.drop (k + 1)) := Lib.hid (drop_atN hx)
   have HI2 : Hid (DgB w.heap.size wr g capd (acc ++ x :: l.drop (k + 1))) := Lib.hid (by rw [← HD.out]; exact HI.out.2.1)
   have HX := Lib.hid (tmAt_next HI.out.1 hx hxo HM.out)
   have c0 := HI2.out.at (i := k) (x := x) (by rw [← HI.out.1.len]; simp)
   have f0 := HI2.out.free k
   have HMu := Lib.hid (fun W => bits_Mul64 x m hxo HM.out W)
   have HA := Lib.hid (fun W => bits_Add64 (x * m % 18446744073709551616) c W)
   have hC := tm_bd hxo HM.out HI.out.1.cb
   obtain ⟨e1, e2⟩ := tm_parts (x := x) (n := m) (c := c)
   rw [e1] at HA
   obtain ⟨S, hS⟩ : ∃ S, S = (x * m + c) % 18446744073709551616 := ⟨_, rfl⟩
   obtain ⟨C, hC2⟩ : ∃ C, C = (x * m + c) / 18446744073709551616 := ⟨_, rfl⟩
   rw [← hS] at HA HX
   rw [← hC2] at HX hC e2
   obtain ⟨H, hH⟩ : ∃ H, H = x * m / 18446744073709551616 := ⟨_, rfl⟩
   obtain ⟨O, hO⟩ : ∃ O, O = (x * m % 18446744073709551616 + c) / 18446744073709551616 := ⟨_, rfl⟩
   obtain ⟨Lo, hLo⟩ : ∃ Lo, Lo = x * m % 18446744073709551616 := ⟨_, rfl⟩
   rw [← hO] at HA e2
   rw [← hH] at HMu e2
   rw [← hLo] at HMu HA
   clear hx hxo e1 hS hC2 hH hO hLo HD
   go_wp2_with (first | (go_at_call 108; refine (HMu.out _).mono ?_; rintro e w' ⟨rfl, rfl⟩) | (rw [HA.out _]))
   go_roundw
   case rel => exact ⟨k + 1, C, by omega, by go_num, by go_num, acc ++ [S], Lib.hid (by
     refine ⟨HX.out, ?_, HI.out.2.2.setCell HI2.out.lt.1 _⟩
     have h2 := HI2.out.set (i := k) (x := S) (by simp [HI.out.1.len])
     rw [set_midN HI.out.1.len] at h2
     exact h2)⟩
   case measure => simp [intOf]; omega
  ·obtain rfl : k = n := by omega
   have HV : Hid (DgB w.heap.size wr g capd acc) := Lib.hid (by
    have e : l.drop k = [] := by rw [HN.out]; simp
    have h2 := HI.out.2.1
    rw [e, List.append_nil] at h2
    exact h2)
   have HK : Hid (acc.length = k) := Lib.hid HI.out.1.len
   have HE := Lib.hid (tmAt_end HI.out.1 HN.out.symm)
   have hown := HV.out.own
   rw [HK.out] at hown
   have hB := HI.out.2.2
   go_wp2_with (at_builtin; refine wpList_append_own _ rfl _ _ 114 rfl w.heap.size 112 i0 (.int .u64 0) 1 8 Tryz.underlying114 hi hz0 hz1 hz2 rfl (by decide) _ _ _ rfl (hown.alloc (.cells #[.int .u64 (c : Int)] 112)) ⟨wr.heap.size, 0, none⟩ 1 1 [.int .u64 (c : Int)] rfl ?qc1 ?qc2 ?qc3 ?qc4 ?qc5 ?qc6 ?_)
   case qc1 => rfl
   case qc2 =>
    intro j u hu
    match j, hu with
    | 0, hu =>
     simp at hu
     subst hu
     rw [addr_plain]
     exact cell_of_one (heap_at _ rfl)
   case qc3 =>
    intro u hu
    simp at hu
    subst hu
    rfl
   case qc4 => unfold maxLen; omega
   case qc5 => omega
   case qc6 =>
    have := hB.size
    simp
    omega
   intro v' w1 hown2 hgrow hnil
   obtain ⟨g2, c2, rfl⟩ := ownsRow_succ hown2
   go_wp2
   go_ret
   refine ⟨g2, c2, acc ++ [c], rfl, by simp [HK.out], HE.out.2, HE.out.1, ⟨by simpa [HK.out, encU] using hown2⟩, ?_⟩
   exact (hB.alloc (by have := hB.size; omega) _).grown hgrow (by have := hB.size; simp; omega) (by intro k hk; simp [Value.ownBlock] at hk; have := HV.out.lt; omega)
end Go.Proofs.YthhkcfpljgdnhaaGreat
