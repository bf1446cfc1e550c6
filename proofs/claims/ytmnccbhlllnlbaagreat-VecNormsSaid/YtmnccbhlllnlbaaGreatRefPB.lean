/- Contract of the reference of layer 2: product of rows of digits. -/
import Derived.Laws.OwnMore
import Derived.Deep.QuietTactic
import Derived.BigQuiet
import Derived.Test.YtmnccbhlllnlbaaGreatRefPA
namespace Mnc
open Go
theorem ival_take_succ {l : List Nat} {k x : Nat} (h : l[k]? = some x) : ival (l.take (k + 1)) = ival (l.take k) + 65536 ^ k * x := by
  obtain ⟨hk, rfl⟩ := List.getElem?_eq_some_iff.1 h
  rw [List.take_add_one, ival_append, h]
  simp only [Option.toList_some, ival, Nat.mul_zero, Nat.add_zero, List.length_take, Nat.min_eq_left (Nat.le_of_lt hk)]
theorem ival_zeros (n : Nat) : ival (List.replicate n 0) = 0 := by
  induction n with
  | zero => rfl
  | succ n ih => rw [List.replicate_succ, ival, ih]
/-- The inner loop: k digits of S + A * l, and a carry. -/
structure InAt (S l : List Nat) (A k c : Nat) (Z : List Nat) : Prop where
  len : Z.length = k
  ok : iok Z
  cb : c < 65536
  val : ival Z + 65536 ^ k * c = ival (S.take k) + A * ival (l.take k)
theorem inAt_start (S l : List Nat) (A : Nat) : InAt S l A 0 0 [] := ⟨rfl, (fun _ h => by cases h), by decide, by simp [ival]⟩
theorem inAt_next {S l Z : List Nat} {A k c x b : Nat} (h : InAt S l A k c Z) (hx : S[k]? = some x) (hb : l[k]? = some b) (xo : x < 65536) (bo : b < 65536) (ao : A < 65536) :
    InAt S l A (k + 1) ((x + A * b + c) / 65536) (Z ++ [(x + A * b + c) % 65536]) ∧ x + A * b + c < 4294967296 := by
  have hab : A * b ≤ 65535 * 65535 := Nat.mul_le_mul (by omega) (by omega)
  have hc := h.cb
  refine ⟨⟨by simp [h.len], iok_append h.ok (fun y hy => by rw [List.mem_singleton] at hy; omega), by omega, ?_⟩, by omega⟩
  rw [ival_append, h.len, ival_take_succ hx, ival_take_succ hb, Nat.mul_add A]
  have hv := h.val
  have e : A * (65536 ^ k * b) = 65536 ^ k * (A * b) := by rw [← Nat.mul_assoc, Nat.mul_comm A, Nat.mul_assoc]
  have e2 : 65536 ^ (k + 1) * ((x + A * b + c) / 65536) = 65536 ^ k * (65536 * ((x + A * b + c) / 65536)) := by rw [Nat.pow_succ, Nat.mul_assoc]
  simp only [ival, Nat.mul_zero, Nat.add_zero]
  rw [e, e2, Nat.add_assoc, ← Nat.mul_add, Nat.mod_add_div]
  rw [Nat.mul_add, Nat.mul_add]
  omega
/-- The outer loop: i digits of a done; X the digits so far. -/
structure OutAt (a b : List Nat) (i : Nat) (X : List Nat) : Prop where
  len : X.length = i + b.length
  ok : iok X
  val : ival X = ival (a.take i) * ival b
theorem outAt_start (a b : List Nat) : OutAt a b 0 (List.replicate b.length 0) := ⟨by simp, (fun x hx => by rw [List.eq_of_mem_replicate hx]; decide), by simp [ival_zeros, ival]⟩
theorem outAt_next {a b X Z : List Nat} {i c A : Nat} (h : OutAt a b i X) (hA : a[i]? = some A) (k : InAt (X.drop i) b A b.length c Z) : OutAt a b (i + 1) (X.take i ++ Z ++ [c]) where
  len := by
    have := h.len
    simp only [List.length_append, List.length_take, k.len, List.length_cons, List.length_nil]
    omega
  ok := iok_append (iok_append (fun x hx => h.ok x (List.mem_of_mem_take hx)) k.ok) (fun x hx => by rw [List.mem_singleton] at hx; rw [hx]; exact k.cb)
  val := by
    have hl : (X.take i).length = i := by have := h.len; rw [List.length_take]; omega
    have hd : (X.drop i).length = b.length := by have := h.len; rw [List.length_drop]; omega
    have hv := k.val
    rw [List.take_of_length_le (by omega), List.take_of_length_le (Nat.le_refl _)] at hv
    have hX : ival X = ival (X.take i) + 65536 ^ i * ival (X.drop i) := by
      conv => lhs; rw [← List.take_append_drop i X]
      rw [ival_append, hl]
    rw [List.append_assoc, ival_append, ival_append, hl, k.len, ival_take_succ hA]
    simp only [ival, Nat.mul_zero, Nat.add_zero]
    rw [hv, Nat.mul_add, ← Nat.add_assoc, ← hX, h.val, Nat.add_mul, Nat.mul_assoc]
theorem outAt_end {a b X : List Nat} (h : OutAt a b a.length X) : ival X = ival a * ival b := by
  rw [h.val, List.take_of_length_le (Nat.le_refl _)]
end Mnc
namespace Go.Proofs.YtmnccbhlllnlbaaGreat
open Go.RowKit Mnc

theorem made_zeros (N : Nat) : (madeCells (Value.int .i64 0).cells (N * 1)).toList = (List.replicate N 0).map encI := by
  rw [Nat.mul_one]
  apply List.ext_getElem
  · simp [size_madeCells]
  · intro i h1 h2
    simp [madeCells, Value.cells, encI, Nat.mod_one]
theorem at_midI {p z r : List Nat} {x : Nat} {k : Nat} (h : p.length + z.length = k) : (p ++ z ++ x :: r)[k]? = some x := by
  subst h
  rw [List.getElem?_append_right (by simp)]
  simp
theorem set_midI {p z r : List Nat} {x y : Nat} {k : Nat} (h : p.length + z.length = k) : (p ++ z ++ x :: r).set k y = p ++ (z ++ [y]) ++ r := by
  subst h
  rw [List.set_append_right _ _ (by simp)]
  simp

theorem take_drop_nil {X : List Nat} {j : Nat} (r : List Nat) : X.take j ++ [] ++ ((X.drop j).drop 0 ++ r) = X ++ r := by
  rw [List.append_nil, List.drop_zero, ← List.append_assoc, List.take_append_drop]
set_option maxRecDepth 100000 in
set_option maxHeartbeats 4000000 in
theorem ref2_product (la lb : List Nat) (ga ca : Nat) (bo : Option Addr) (cb : Nat) (w : World) (ha : IgAt w ga ca la) (hb : ∀ (k b : Nat), lb[k]? = some b → ∃ gb, bo = some ⟨gb, 0, none⟩ ∧ IgAt w gb cb lb) (ob : iok lb) (hla : la.length ≤ 100) (hlb : lb.length ≤ 4) :
    Calls Tryz.prog 119 #[.slice (some ⟨ga, 0, none⟩) la.length ca, .slice bo lb.length cb] w fun e w' => ∃ g L, e = .returned (.slice (some ⟨g, 0, none⟩) (la.length + lb.length) (la.length + lb.length)) ∧ L.length = la.length + lb.length ∧ iok L ∧ ival L = ival la * ival lb ∧ IgB w.heap.size w' g (la.length + lb.length) L ∧ Below w.heap.size w w' := by
  obtain ⟨i0, hi, hz0, hz1, hz2⟩ := i64_parts
  have HA := Lib.hid ha
  have HB := Lib.hid hb
  have HOb := Lib.hid ob
  clear ha hb ob
  obtain ⟨n, hn⟩ : ∃ n, n = la.length := ⟨_, rfl⟩
  obtain ⟨m, hm⟩ : ∃ m, m = lb.length := ⟨_, rfl⟩
  obtain ⟨N, hN⟩ : ∃ N, N = n + m := ⟨_, rfl⟩
  have HN := Lib.hid hn
  have HM := Lib.hid hm
  have hNi : (n : Int) + (m : Int) = (N : Int) := by omega
  rw [← hn] at hla ⊢
  rw [← hm] at hlb ⊢
  rw [← hN]
  have HNN := Lib.hid hN
  obtain ⟨w1, hrun, hown, hgrow⟩ := run_makeSlice_full (P := Tryz.prog) w w.heap.size 131 3 i0 (.int .i64 0) 1 Tryz.underlying131 hi hz0 hz1 .i64 .i64 N (by omega) (by rw [hz2]; omega) (by unfold maxLen; omega) (Nat.le_refl _)
  rw [made_zeros] at hown
  have HS : Hid (OutAt la lb 0 (List.replicate m 0) ∧ IgB w.heap.size w1 w.heap.size N (List.replicate m 0 ++ List.replicate (n - 0) 0) ∧ Below w.heap.size w w1) := Lib.hid ⟨by rw [hm]; exact outAt_start la lb, ⟨by
    rw [List.replicate_append_replicate, List.length_replicate, show m + (n - 0) = N by omega]
    exact hown⟩, (Below.refl _ w).grown hgrow (Nat.le_refl _) (fun k hk => by cases hk)⟩
  clear hn hm hN hown hgrow
  go_enter Tryz.func119, Tryz.ntmps119
  go_wp2_with fail
  clear hrun
  obtain ⟨G, hG⟩ : ∃ G, G = w.heap.size := ⟨_, rfl⟩
  have HGs := Lib.hid hG
  go_loopw [6] (fun i wr => ∃ j : Nat, j ≤ n ∧ i = .int .i64 j ∧ ∃ X, Hid (OutAt la lb j X ∧ IgB w.heap.size wr w.heap.size N (X ++ List.replicate (n - j) 0) ∧ Below w.heap.size w wr)) (fun i _ => n - (intOf i).toNat)
  case atStart => exact ⟨0, by omega, rfl, _, HS⟩
  case round =>
    clear HS hG
    obtain ⟨j, hj, rfl, X, HI⟩ := hrel
    rcases Nat.lt_or_ge j n with hj' | hj'
    · obtain ⟨A, hA⟩ : ∃ A, la[j]? = some A := ⟨_, List.getElem?_eq_getElem (by rw [← HN.out]; exact hj')⟩
      have HAj := Lib.hid hA
      have oA : A < 65536 := HA.out.ok A (List.mem_of_getElem? hA)
      clear hA
      have HS2 : Hid (InAt (X.drop j) lb A 0 0 [] ∧ IgB w.heap.size wr w.heap.size N (X.take j ++ [] ++ ((X.drop j).drop 0 ++ List.replicate (n - j) 0)) ∧ Below w.heap.size w wr) := Lib.hid ⟨inAt_start _ _ _, by rw [take_drop_nil]; exact HI.out.2.1, HI.out.2.2⟩
      go_wp2_with fail
      go_loopw [7, 8] (fun cv kv wr => ∃ k c : Nat, k ≤ m ∧ kv = .int .i64 k ∧ cv = .int .i64 c ∧ ∃ Z, Hid (InAt (X.drop j) lb A k c Z ∧ IgB w.heap.size wr w.heap.size N (X.take j ++ Z ++ ((X.drop j).drop k ++ List.replicate (n - j) 0)) ∧ Below w.heap.size w wr)) (fun _ kv _ => m - (intOf kv).toNat)
      case atStart => exact ⟨0, 0, by omega, rfl, rfl, [], HS2⟩
      case round =>
        clear HS2
        obtain ⟨k, c, hk, rfl, rfl, Z, HJ⟩ := hrel
        have hcb : c < 65536 := HJ.out.1.cb
        rcases Nat.lt_or_ge k m with hk' | hk'
        · obtain ⟨b, hb⟩ : ∃ b, lb[k]? = some b := ⟨_, List.getElem?_eq_getElem (by rw [← HM.out]; exact hk')⟩
          have hXl : (X.drop j).length = m := by
            have := HI.out.1.len
            have := HM.out
            rw [List.length_drop]
            omega
          obtain ⟨x, hx⟩ : ∃ x, (X.drop j)[k]? = some x := ⟨_, List.getElem?_eq_getElem (by omega)⟩
          have xo : x < 65536 := HI.out.1.ok x (List.mem_of_mem_drop (List.mem_of_getElem? hx))
          have bo' : b < 65536 := HOb.out b (List.mem_of_getElem? hb)
          obtain ⟨hnx, hlt⟩ := inAt_next HJ.out.1 hx hb xo bo' oA
          obtain ⟨gb, rfl, hgb⟩ := HB.out k b hb
          have hlen : (X.take j).length + Z.length = j + k := by
            have := HI.out.1.len
            have := HM.out
            rw [HJ.out.1.len, List.length_take]
            omega
          have hrow : Hid (IgB w.heap.size wr w.heap.size N (X.take j ++ Z ++ x :: ((X.drop j).drop (k + 1) ++ List.replicate (n - j) 0))) := Lib.hid (by
            have h2 := HJ.out.2.1
            rw [drop_atN hx] at h2
            exact h2)
          have c0 := hrow.out.at (i := j + k) (at_midI hlen)
          have f0 := hrow.out.free (j + k)
          have c1 := (HJ.out.2.2.cell (p := ⟨ga, j, none⟩) HA.out.lt).trans (HA.out.cells j A HAj.out)
          have c2 := (HJ.out.2.2.cell (p := ⟨gb, k, none⟩) hgb.lt).trans (hgb.cells k b hb)
          have HLen := Lib.hid hlen
          have hcb2 : k < cb ∨ True := Or.inr trivial
          have hcap := hgb.le
          rw [← HM.out] at hcap
          have hcapa := HA.out.le
          rw [← HN.out] at hcapa
          obtain ⟨AB, hAB⟩ : ∃ AB, AB = A * b := ⟨_, rfl⟩
          have e1 : (A : Int) * (b : Int) = (AB : Int) := by rw [hAB]; exact (Int.natCast_mul A b).symm
          rw [← hAB] at hnx hlt
          obtain ⟨S, hS⟩ : ∃ S, S = x + AB + c := ⟨_, rfl⟩
          have e2 : (x : Int) + (AB : Int) + (c : Int) = (S : Int) := by omega
          rw [← hS] at hnx hlt
          obtain ⟨R, hR⟩ : ∃ R, R = S % 65536 := ⟨_, rfl⟩
          obtain ⟨Q, hQ⟩ : ∃ Q, Q = S / 65536 := ⟨_, rfl⟩
          have e3 : (S : Int) % 65536 = (R : Int) := by omega
          have e4 : (S : Int) / 65536 = (Q : Int) := by omega
          rw [← hR, ← hQ] at hnx
          have HX := Lib.hid hnx
          have hltI : (S : Int) < 4294967296 := by omega
          have hABI : (AB : Int) < 4294967296 := by omega
          have i1 : (0 : Int) ≤ (j : Int) + (k : Int) := by omega
          have i2 : (j : Int) + (k : Int) < (N : Int) := by omega
          have i3 : (j : Int) < (n : Int) := by omega
          have i4 : (k : Int) < (m : Int) := by omega
          clear hAB hR hQ hnx hx hb hgb hlen hXl hcb2 hlt hS
          go_wp2_with fail
          go_quiet (fail)
          go_wp2_with fail
          go_roundw
          case rel => exact ⟨k + 1, Q, by omega, by go_num, by go_num, Z ++ [R], Lib.hid ⟨HX.out, by
              have h2 := (hrow.out.on (below_drewN (Below.refl _ _) nq)).set (i := j + k) (x := R) (by have := HLen.out; simp only [List.length_append, List.length_cons]; omega)
              rw [set_midI HLen.out] at h2
              exact h2, (below_drewN HJ.out.2.2 _).setCell (Nat.le_refl _) _⟩⟩
          case measure => simp [intOf]; omega
        · obtain rfl : k = m := by omega
          have hXl : X.length = j + k := by rw [HM.out]; exact HI.out.1.len
          have hlen : (X.take j).length + Z.length = j + k := by
            rw [HJ.out.1.len, List.length_take]
            omega
          have hrow : Hid (IgB w.heap.size wr w.heap.size N (X.take j ++ Z ++ 0 :: List.replicate (n - (j + 1)) 0)) := Lib.hid (by
            have h2 := HJ.out.2.1
            rw [List.drop_drop, List.drop_of_length_le (by omega), List.nil_append, show n - j = (n - (j + 1)) + 1 by omega, List.replicate_succ] at h2
            exact h2)
          have c0 := hrow.out.at (i := j + k) (at_midI hlen)
          have f0 := hrow.out.free (j + k)
          have HLen := Lib.hid hlen
          have HO : Hid (OutAt la lb (j + 1) (X.take j ++ Z ++ [c])) := Lib.hid (outAt_next HI.out.1 HAj.out (by rw [← HM.out]; exact HJ.out.1))
          clear hlen hXl
          go_wp2_with fail
          go_roundw
          case rel => exact ⟨j + 1, by omega, by go_num, X.take j ++ Z ++ [c], Lib.hid ⟨HO.out, by
              have h2 := hrow.out.set (i := j + k) (x := c) (by have := HLen.out; simp only [List.length_append, List.length_cons]; omega)
              rw [set_midI HLen.out, ← List.append_assoc (X.take j)] at h2
              exact h2, HJ.out.2.2.setCell (Nat.le_refl _) _⟩⟩
          case measure => simp [intOf]; omega
    · obtain rfl : j = n := by omega
      go_wp2_with fail
      go_ret
      exact ⟨_, X, rfl, by rw [HI.out.1.len, HNN.out, HM.out], HI.out.1.ok, by have h2 := HI.out.1; rw [HN.out] at h2; exact outAt_end h2, by have h2 := HI.out.2.1; simpa using h2, HI.out.2.2⟩
end Go.Proofs.YtmnccbhlllnlbaaGreat
