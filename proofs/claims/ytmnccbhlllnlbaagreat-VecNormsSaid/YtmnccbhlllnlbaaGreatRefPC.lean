/- Contract of the reference of layer 2: power. -/
import Derived.Test.YtmnccbhlllnlbaaGreatRefPB
namespace Mnc
open Go
theorem ival_bd {l : List Nat} (h : iok l) : ival l < 65536 ^ l.length := by
  induction l with
  | nil => simp [ival]
  | cons x l ih =>
    have hx := h x (by simp)
    have := ih (fun y hy => h y (by simp [hy]))
    simp only [ival, List.length_cons, Nat.pow_succ]
    omega
theorem ival_split (l : List Nat) (k : Nat) : ival l = ival (l.take k) + 65536 ^ (min k l.length) * ival (l.drop k) := by
  conv => lhs; rw [← List.take_append_drop k l]
  rw [ival_append, List.length_take]
theorem ival_div {l : List Nat} (h : iok l) (k : Nat) : ival l / 65536 ^ k = ival (l.drop k) ∧ ival l % 65536 ^ k = ival (l.take k) := by
  rcases Nat.lt_or_ge k l.length with hk | hk
  · have e := ival_split l k
    rw [Nat.min_eq_left (Nat.le_of_lt hk)] at e
    have hb := ival_bd (l := l.take k) (fun y hy => h y (List.mem_of_mem_take hy))
    rw [List.length_take, Nat.min_eq_left (Nat.le_of_lt hk)] at hb
    have hp : 0 < 65536 ^ k := Nat.pow_pos (by decide)
    rw [e]
    constructor
    · rw [Nat.add_mul_div_left _ _ hp, Nat.div_eq_of_lt hb, Nat.zero_add]
    · rw [Nat.add_mul_mod_self_left, Nat.mod_eq_of_lt hb]
  · have hb := ival_bd h
    have : 65536 ^ l.length ≤ 65536 ^ k := Nat.pow_le_pow_right (by decide) hk
    rw [List.drop_of_length_le hk, List.take_of_length_le hk]
    exact ⟨Nat.div_eq_of_lt (by omega), Nat.mod_eq_of_lt (by omega)⟩
theorem ival_drop {l : List Nat} {k x : Nat} (h : l[k]? = some x) : ival (l.drop k) = x + 65536 * ival (l.drop (k + 1)) := by
  obtain ⟨hk, rfl⟩ := List.getElem?_eq_some_iff.1 h
  rw [List.drop_eq_getElem_cons hk]
  rfl
theorem ival_drop_le (l : List Nat) (a k : Nat) : ival (l.drop (a + k)) ≤ ival (l.drop a) := by
  induction k with
  | zero => exact Nat.le_refl _
  | succ k ih =>
    refine Nat.le_trans ?_ ih
    rw [← Nat.add_assoc]
    rcases Nat.lt_or_ge (a + k) l.length with h | h
    · obtain ⟨x, hx⟩ : ∃ x, l[a + k]? = some x := ⟨_, List.getElem?_eq_getElem h⟩
      rw [ival_drop hx]
      omega
    · rw [List.drop_of_length_le (by omega), List.drop_of_length_le (by omega)]
      exact Nat.le_refl _
theorem pow_two_digits (n : Nat) : 65536 ^ (2 * n) = 4294967296 ^ n := by rw [Nat.pow_mul]
/-- The power of a size, rounded. -/
def pwX (v n : Nat) (up : Bool) : Nat := rsz up (v ^ n) (4294967296 ^ (n - 1))
theorem pwX_ge {l : List Nat} {v n : Nat} (h : iok l) (hv : ival l = v ^ n) (up : Bool) : ival (l.drop (2 * (n - 1))) ≤ pwX v n up := by
  rw [← (ival_div h (2 * (n - 1))).1, pow_two_digits, hv]
  exact rsz_ge _ _ _
theorem take_pos {l : List Nat} {j x : Nat} {R : Bool} (h : R = decide (0 < ival (l.take j))) (hx : l[j]? = some x) : (R || decide (0 < x)) = decide (0 < ival (l.take (j + 1))) := by
  have hp : 0 < 65536 ^ j := Nat.pow_pos (by decide)
  rw [ival_take_succ hx, h, ← Bool.decide_or, decide_eq_decide]
  constructor
  · rintro (h | h)
    · omega
    · have := Nat.mul_pos hp h
      omega
  · intro h
    rcases Nat.eq_zero_or_pos x with h0 | h0
    · subst h0
      left
      simpa using h
    · exact .inr h0
theorem pwX_of {l : List Nat} {v n : Nat} (h : iok l) (hv : ival l = v ^ n) (up : Bool) : pwX v n up = if (up && decide (0 < ival (l.take (2 * (n - 1))))) = true then ival (l.drop (2 * (n - 1))) + 1 else ival (l.drop (2 * (n - 1))) := by
  obtain ⟨e1, e2⟩ := ival_div h (2 * (n - 1))
  rw [pow_two_digits, hv] at e1 e2
  unfold pwX rsz
  rw [e1, e2]
  cases up <;> simp [Nat.pos_iff_ne_zero]
end Mnc
namespace Go.Proofs.YtmnccbhlllnlbaaGreat
open Go.RowKit Mnc

theorem IgB.low {n₀ n₁ : Nat} {W : World} {g cap : Nat} {L : List Nat} (h : IgB n₁ W g cap L) (k : n₀ ≤ n₁) : IgB n₀ W g cap L where
  own := by
    refine ⟨h.own.1, ?_⟩
    rcases h.own.2 with h' | ⟨g', cap', cur, h1, h2, hr⟩
    · exact .inl h'
    · exact .inr ⟨g', cap', cur, h1, Nat.le_trans k h2, hr⟩
/-- The digits of a power under way. -/
structure PlAt (w W : World) (v k g c : Nat) (L : List Nat) : Prop where
  len : L.length ≤ 1 + 4 * k
  ok : iok L
  val : ival L = v ^ k
  own : IgB w.heap.size W g c L
  bel : Below w.heap.size w W
theorem PlAt.start (w : World) (v : Nat) : PlAt w (w.alloc (.cells #[.int .i64 1] 3)) v 0 w.heap.size 1 [1] :=
  ⟨by simp, fun d hd => by simp at hd; omega, rfl, ⟨World.ownsRow_lit w #[.int .i64 1] 1 (Nat.le_refl _) (by decide) rfl⟩, below_alloc (Below.refl _ _) _⟩
/-- How power answers. -/
def PwEnd (v n : Nat) (up : Bool) (e : Ending) : Prop := ∃ (X : Nat) (F : Bool), e = .returned (.tuple #[.int .i64 (X : Int), .bool F]) ∧ (F = true → X = pwX v n up ∧ X ≤ 4503599627370496) ∧ (F = false → 4503599627370496 < pwX v n up) ∧ X ≤ 4503599627436032

set_option maxRecDepth 100000 in
set_option maxHeartbeats 4000000 in
theorem ref2_power (v n : Nat) (hv : v ≤ 4503599627370496) (h1 : 1 ≤ n) (hn : n ≤ 16) (up : Bool) (w : World) :
    Calls Tryz.prog 104 #[.int .i64 (v : Int), .int .i64 (n : Int), .bool up] w fun e w' => PwEnd v n up e ∧ Below w.heap.size w w' := by
  have HV := Lib.hid hv
  have HP := Lib.hid (PlAt.start w v)
  clear hv
  go_enter Tryz.func104, Tryz.ntmps104
  go_wp2_with fail
  go_loopw [8, 9] (fun dv i wr => ∃ k g c z : Nat, k ≤ n ∧ i = .int .i64 k ∧ dv = .slice (some ⟨g, 0, none⟩) z c ∧ ∃ L : List Nat, Hid (PlAt w wr v k g c L ∧ z = L.length)) (fun _ i _ => n - (intOf i).toNat)
  case atStart => exact ⟨0, _, _, 1, by omega, rfl, rfl, [1], Lib.hid ⟨HP.out, rfl⟩⟩
  case round =>
    clear HP
    obtain ⟨k, g, c, z, hk, rfl, rfl, L, HI⟩ := hrel
    rcases Nat.lt_or_ge k n with hk' | hk'
    · go_wp2_with fail
      refine (ref2_parts v HV.out _).mono ?_
      rintro e w2 ⟨vb, lb, rfl, hr, hok, hval, hl4, hbel⟩
      have HIa := Lib.hid ((HI.out.1.own.on hbel).dg HI.out.1.ok)
      have HB2 := Lib.hid (below_step HI.out.1.bel hbel)
      have hz : ∃ (bo : Option Addr) (cb : Nat), vb = .slice bo lb.length cb ∧ ∀ (j b : Nat), lb[j]? = some b → ∃ gb, bo = some ⟨gb, 0, none⟩ ∧ IgAt w2 gb cb lb := by
        rcases hr with ⟨rfl, rfl⟩ | ⟨gb, cb, rfl, hb⟩
        · exact ⟨none, 0, rfl, fun j b h => by simp at h⟩
        · exact ⟨some ⟨gb, 0, none⟩, cb, rfl, fun _ _ _ => ⟨gb, rfl, hb.dg hok⟩⟩
      obtain ⟨bo, cb, rfl, hzb⟩ := hz
      have HPR := Lib.hid (ref2_product L lb g c bo cb w2 HIa.out hzb hok (by have := HI.out.1.len; omega) hl4)
      rw [← HI.out.2] at HPR
      have HF : Hid (ival lb = v ∧ lb.length ≤ 4) := Lib.hid ⟨hval, hl4⟩
      clear hr hok hval hl4 hbel hzb
      go_wp2_with fail
      refine HPR.out.mono ?_
      rintro e w3 ⟨g3, L3, rfl, h3, h4, h5, h6, h7⟩
      have HN2 : Hid (PlAt w w3 v (k + 1) g3 (z + lb.length) L3 ∧ z + lb.length = L3.length) := Lib.hid ⟨⟨by have := HI.out.1.len; have := HI.out.2; have := HF.out.2; omega, h4, by rw [h5, HI.out.1.val, HF.out.1, Nat.pow_succ], h6.low HB2.out.size, below_step HB2.out h7⟩, h3.symm⟩
      clear h3 h4 h5 h6 h7 HPR
      go_wp2_with fail
      go_roundw
      case rel => exact ⟨k + 1, g3, z + lb.length, z + lb.length, by omega, by go_num, rfl, L3, HN2⟩
      case measure => simp [intOf]; omega
    · obtain rfl : k = n := by omega
      clear hk hk'
      go_wp2_with fail
      obtain ⟨d, hd⟩ : ∃ d, d = 2 * (k - 1) := ⟨_, rfl⟩
      have hdi : (2 : Int) * ((k : Int) - 1) = (d : Int) := by omega
      have hd30 : d ≤ 30 := by omega
      have HD := Lib.hid hd
      have hz65 : z ≤ 65 := by have := HI.out.1.len; have := HI.out.2; omega
      clear hd
      have HKd := Lib.hid (show 1 ≤ k ∧ k ≤ 16 from ⟨h1, hn⟩)
      go_loop [10, 11] (fun r i => ∃ (j : Nat) (R : Bool), j ≤ z ∧ j ≤ d ∧ i = .int .i64 j ∧ r = .bool R ∧ Hid (R = decide (0 < ival (L.take j)))) (fun _ i => z - (intOf i).toNat)
      case atStart => exact ⟨0, false, by omega, by omega, rfl, rfl, Lib.hid (by simp [ival])⟩
      case round =>
        obtain ⟨j, R, hj, hjd, rfl, rfl, HR⟩ := hrel
        by_cases hjd' : j < d
        · by_cases hj' : j < z
          · obtain ⟨x, hx⟩ : ∃ x, L[j]? = some x := ⟨_, List.getElem?_eq_getElem (by rw [← HI.out.2]; exact hj')⟩
            have c0 := HI.out.1.own.at hx
            have HT := Lib.hid (take_pos HR.out hx)
            have i1 : (0 : Int) ≤ (j : Int) := by omega
            have i2 : (j : Int) < (z : Int) := by omega
            clear hx
            cases R with
            | true =>
              go_wp2_with fail
              go_roundw
              case rel => exact ⟨j + 1, true, by omega, by omega, by go_num, rfl, Lib.hid (by rw [← HT.out]; rfl)⟩
              case measure => simp [intOf]; omega
            | false =>
              by_cases hx0 : 0 < x
              · have e1 : decide ((0 : Int) < (x : Int)) = true := by simp; omega
                have e2 : decide (0 < x) = true := decide_eq_true hx0
                go_wp2_with fail
                go_roundw
                case rel => exact ⟨j + 1, true, by omega, by omega, by go_num, rfl, Lib.hid (by rw [← HT.out, e2]; rfl)⟩
                case measure => simp [intOf]; omega
              · have e1 : decide ((0 : Int) < (x : Int)) = false := by simp; omega
                have e2 : decide (0 < x) = false := decide_eq_false hx0
                go_wp2_with fail
                go_roundw
                case rel => exact ⟨j + 1, false, by omega, by omega, by go_num, rfl, Lib.hid (by rw [← HT.out, e2]; rfl)⟩
                case measure => simp [intOf]; omega
          · have i5 : ¬ (j : Int) < (z : Int) := by omega
            have i6 : (j : Int) < (d : Int) := by omega
            have HT2 : Hid (R = decide (0 < ival (L.take d))) := Lib.hid (by rw [HR.out]; rw [List.take_of_length_le (by have := HI.out.2; omega), List.take_of_length_le (by have := HI.out.2; omega)])
            clear HR
            go_wp2_with fail
            go_loop [12, 13] (fun o i => ∃ a O : Nat, a ≤ z ∧ (d ≤ a ∨ a = z) ∧ i = .int .i64 ((a : Int) - 1) ∧ o = .int .i64 O ∧ (O : Int) ≤ 4503599627436031 ∧ Hid (O = ival (L.drop a))) (fun _ i => (intOf i + 1).toNat)
            case atStart => exact ⟨z, 0, by omega, .inr rfl, rfl, rfl, by omega, Lib.hid (by rw [HI.out.2, List.drop_of_length_le (Nat.le_refl _)]; rfl)⟩
            case round =>
              obtain ⟨a, O, ha, had, rfl, rfl, hO, HO⟩ := hrel
              by_cases hda : d < a
              · obtain ⟨x, hx⟩ : ∃ x, L[a - 1]? = some x := ⟨_, List.getElem?_eq_getElem (by rw [← HI.out.2]; omega)⟩
                have hxo : (x : Int) < 65536 := by have := HI.out.1.ok x (List.mem_of_getElem? hx); omega
                have HDr : Hid (ival (L.drop (a - 1)) = x + 65536 * O) := Lib.hid (by rw [ival_drop hx, HO.out, show a - 1 + 1 = a by omega])
                have c0 := HI.out.1.own.at hx
                have ea : ((a - 1 : Nat) : Int) = (a : Int) - 1 := by omega
                obtain ⟨a', ha'⟩ : ∃ a', a' = a - 1 := ⟨_, rfl⟩
                rw [← ha'] at ea c0 HDr
                rw [← ea]
                have i1 : (0 : Int) ≤ (a' : Int) := by omega
                have i2 : (a' : Int) < (z : Int) := by omega
                have i3 : (d : Int) ≤ (a' : Int) := by omega
                have i4 : (a' : Int) < (a : Int) := by omega
                have HA' := Lib.hid ha'
                clear ea ha'
                clear hx
                by_cases hbig : (68719476736 : Int) < (O : Int)
                · have HB : Hid (4503599627370496 < pwX v k up) := Lib.hid (by
                    have h2 := pwX_ge HI.out.1.ok HI.out.1.val up
                    rw [← HD.out] at h2
                    have h3 := ival_drop_le L d (a' - d)
                    have := HA'.out
                    rw [show d + (a' - d) = a' by omega, HDr.out] at h3
                    omega)
                  go_wp2_with fail
                  go_ret2
                  exact ⟨⟨0, false, rfl, (fun h => by cases h), fun _ => HB.out, by omega⟩, HI.out.1.bel⟩
                · obtain ⟨O2, hO2⟩ : ∃ O2, O2 = O * 65536 + x := ⟨_, rfl⟩
                  have e2 : (O : Int) * 65536 + (x : Int) = (O2 : Int) := by omega
                  have b2 : (O2 : Int) ≤ 4503599627436031 := by omega
                  have HO2 : Hid (O2 = ival (L.drop a')) := Lib.hid (by rw [HDr.out]; omega)
                  clear hO2
                  go_wp2_with fail
                  go_roundw
                  case rel => exact ⟨a', O2, by omega, .inl (by omega), rfl, by go_num, b2, HO2⟩
                  case measure => simp [intOf] <;> omega
              · have HX : Hid (O = ival (L.drop d)) := Lib.hid (by
                  rw [HO.out]
                  rcases had with h | h
                  · rw [show a = d by omega]
                  · rw [List.drop_of_length_le (by have := HI.out.2; omega), List.drop_of_length_le (by have := HI.out.2; omega)])
                have HPX : Hid (pwX v k up = if (up && R) = true then O + 1 else O) := Lib.hid (by
                  have h2 := pwX_of HI.out.1.ok HI.out.1.val up
                  rw [← HD.out, ← HX.out, ← HT2.out] at h2
                  exact h2)
                have i3 : ¬ (d : Int) ≤ (a : Int) - 1 := by omega
                clear HX HO HT2
                cases up with
                | false =>
                  by_cases hf : (O : Int) ≤ 4503599627370496
                  · have HF : Hid (pwX v k false = O) := Lib.hid (by rw [HPX.out]; simp)
                    clear HPX
                    go_wp2_with fail
                    go_ret2
                    exact ⟨⟨O, true, (by first | rfl | simp), (fun _ => ⟨HF.out.symm, by omega⟩), (fun h => by cases h), by omega⟩, HI.out.1.bel⟩
                  · have HF : Hid (pwX v k false = O) := Lib.hid (by rw [HPX.out]; simp)
                    clear HPX
                    go_wp2_with fail
                    go_ret2
                    exact ⟨⟨O, false, (by first | rfl | simp), (fun h => by cases h), (fun _ => by rw [HF.out]; omega), by omega⟩, HI.out.1.bel⟩
                | true =>
                  cases R with
                  | false =>
                    by_cases hf : (O : Int) ≤ 4503599627370496
                    · have HF : Hid (pwX v k true = O) := Lib.hid (by rw [HPX.out]; simp)
                      clear HPX
                      go_wp2_with fail
                      go_ret2
                      exact ⟨⟨O, true, (by first | rfl | simp), (fun _ => ⟨HF.out.symm, by omega⟩), (fun h => by cases h), by omega⟩, HI.out.1.bel⟩
                    · have HF : Hid (pwX v k true = O) := Lib.hid (by rw [HPX.out]; simp)
                      clear HPX
                      go_wp2_with fail
                      go_ret2
                      exact ⟨⟨O, false, (by first | rfl | simp), (fun h => by cases h), (fun _ => by rw [HF.out]; omega), by omega⟩, HI.out.1.bel⟩
                  | true =>
                    by_cases hf : (O : Int) + 1 ≤ 4503599627370496
                    · have HF : Hid (pwX v k true = (O + 1)) := Lib.hid (by rw [HPX.out]; simp)
                      clear HPX
                      go_wp2_with fail
                      go_ret2
                      exact ⟨⟨(O + 1), true, (by first | rfl | simp), (fun _ => ⟨HF.out.symm, by omega⟩), (fun h => by cases h), by omega⟩, HI.out.1.bel⟩
                    · have HF : Hid (pwX v k true = (O + 1)) := Lib.hid (by rw [HPX.out]; simp)
                      clear HPX
                      go_wp2_with fail
                      go_ret2
                      exact ⟨⟨(O + 1), false, (by first | rfl | simp), (fun h => by cases h), (fun _ => by rw [HF.out]; omega), by omega⟩, HI.out.1.bel⟩
        · have i5 : ¬ (j : Int) < (d : Int) := by omega
          have HT2 : Hid (R = decide (0 < ival (L.take d))) := Lib.hid (by rw [HR.out]; rw [show j = d by omega])
          clear HR
          go_wp2_with fail
          go_loop [12, 13] (fun o i => ∃ a O : Nat, a ≤ z ∧ (d ≤ a ∨ a = z) ∧ i = .int .i64 ((a : Int) - 1) ∧ o = .int .i64 O ∧ (O : Int) ≤ 4503599627436031 ∧ Hid (O = ival (L.drop a))) (fun _ i => (intOf i + 1).toNat)
          case atStart => exact ⟨z, 0, by omega, .inr rfl, rfl, rfl, by omega, Lib.hid (by rw [HI.out.2, List.drop_of_length_le (Nat.le_refl _)]; rfl)⟩
          case round =>
            obtain ⟨a, O, ha, had, rfl, rfl, hO, HO⟩ := hrel
            by_cases hda : d < a
            · obtain ⟨x, hx⟩ : ∃ x, L[a - 1]? = some x := ⟨_, List.getElem?_eq_getElem (by rw [← HI.out.2]; omega)⟩
              have hxo : (x : Int) < 65536 := by have := HI.out.1.ok x (List.mem_of_getElem? hx); omega
              have HDr : Hid (ival (L.drop (a - 1)) = x + 65536 * O) := Lib.hid (by rw [ival_drop hx, HO.out, show a - 1 + 1 = a by omega])
              have c0 := HI.out.1.own.at hx
              have ea : ((a - 1 : Nat) : Int) = (a : Int) - 1 := by omega
              obtain ⟨a', ha'⟩ : ∃ a', a' = a - 1 := ⟨_, rfl⟩
              rw [← ha'] at ea c0 HDr
              rw [← ea]
              have i1 : (0 : Int) ≤ (a' : Int) := by omega
              have i2 : (a' : Int) < (z : Int) := by omega
              have i3 : (d : Int) ≤ (a' : Int) := by omega
              have i4 : (a' : Int) < (a : Int) := by omega
              have HA' := Lib.hid ha'
              clear ea ha'
              clear hx
              by_cases hbig : (68719476736 : Int) < (O : Int)
              · have HB : Hid (4503599627370496 < pwX v k up) := Lib.hid (by
                  have h2 := pwX_ge HI.out.1.ok HI.out.1.val up
                  rw [← HD.out] at h2
                  have h3 := ival_drop_le L d (a' - d)
                  have := HA'.out
                  rw [show d + (a' - d) = a' by omega, HDr.out] at h3
                  omega)
                go_wp2_with fail
                go_ret2
                exact ⟨⟨0, false, rfl, (fun h => by cases h), fun _ => HB.out, by omega⟩, HI.out.1.bel⟩
              · obtain ⟨O2, hO2⟩ : ∃ O2, O2 = O * 65536 + x := ⟨_, rfl⟩
                have e2 : (O : Int) * 65536 + (x : Int) = (O2 : Int) := by omega
                have b2 : (O2 : Int) ≤ 4503599627436031 := by omega
                have HO2 : Hid (O2 = ival (L.drop a')) := Lib.hid (by rw [HDr.out]; omega)
                clear hO2
                go_wp2_with fail
                go_roundw
                case rel => exact ⟨a', O2, by omega, .inl (by omega), rfl, by go_num, b2, HO2⟩
                case measure => simp [intOf] <;> omega
            · have HX : Hid (O = ival (L.drop d)) := Lib.hid (by
                rw [HO.out]
                rcases had with h | h
                · rw [show a = d by omega]
                · rw [List.drop_of_length_le (by have := HI.out.2; omega), List.drop_of_length_le (by have := HI.out.2; omega)])
              have HPX : Hid (pwX v k up = if (up && R) = true then O + 1 else O) := Lib.hid (by
                have h2 := pwX_of HI.out.1.ok HI.out.1.val up
                rw [← HD.out, ← HX.out, ← HT2.out] at h2
                exact h2)
              have i3 : ¬ (d : Int) ≤ (a : Int) - 1 := by omega
              clear HX HO HT2
              cases up with
              | false =>
                by_cases hf : (O : Int) ≤ 4503599627370496
                · have HF : Hid (pwX v k false = O) := Lib.hid (by rw [HPX.out]; simp)
                  clear HPX
                  go_wp2_with fail
                  go_ret2
                  exact ⟨⟨O, true, (by first | rfl | simp), (fun _ => ⟨HF.out.symm, by omega⟩), (fun h => by cases h), by omega⟩, HI.out.1.bel⟩
                · have HF : Hid (pwX v k false = O) := Lib.hid (by rw [HPX.out]; simp)
                  clear HPX
                  go_wp2_with fail
                  go_ret2
                  exact ⟨⟨O, false, (by first | rfl | simp), (fun h => by cases h), (fun _ => by rw [HF.out]; omega), by omega⟩, HI.out.1.bel⟩
              | true =>
                cases R with
                | false =>
                  by_cases hf : (O : Int) ≤ 4503599627370496
                  · have HF : Hid (pwX v k true = O) := Lib.hid (by rw [HPX.out]; simp)
                    clear HPX
                    go_wp2_with fail
                    go_ret2
                    exact ⟨⟨O, true, (by first | rfl | simp), (fun _ => ⟨HF.out.symm, by omega⟩), (fun h => by cases h), by omega⟩, HI.out.1.bel⟩
                  · have HF : Hid (pwX v k true = O) := Lib.hid (by rw [HPX.out]; simp)
                    clear HPX
                    go_wp2_with fail
                    go_ret2
                    exact ⟨⟨O, false, (by first | rfl | simp), (fun h => by cases h), (fun _ => by rw [HF.out]; omega), by omega⟩, HI.out.1.bel⟩
                | true =>
                  by_cases hf : (O : Int) + 1 ≤ 4503599627370496
                  · have HF : Hid (pwX v k true = (O + 1)) := Lib.hid (by rw [HPX.out]; simp)
                    clear HPX
                    go_wp2_with fail
                    go_ret2
                    exact ⟨⟨(O + 1), true, (by first | rfl | simp), (fun _ => ⟨HF.out.symm, by omega⟩), (fun h => by cases h), by omega⟩, HI.out.1.bel⟩
                  · have HF : Hid (pwX v k true = (O + 1)) := Lib.hid (by rw [HPX.out]; simp)
                    clear HPX
                    go_wp2_with fail
                    go_ret2
                    exact ⟨⟨(O + 1), false, (by first | rfl | simp), (fun h => by cases h), (fun _ => by rw [HF.out]; omega), by omega⟩, HI.out.1.bel⟩
end Go.Proofs.YtmnccbhlllnlbaaGreat
