/- Contract: fix.FromDec. -/
import Derived.Test.YtgfofilkpaelnaaDoorFixR
import Derived.OneCell
namespace Go.Proofs.YtgfofilkpaelnaaDoor
open Go.RowKit Mnc

/-- The powers of ten lie where the variable lies. -/
def Pows (w : World) : Prop := 0 < w.heap.size ∧ ∀ k : Nat, k < 13 → w.cell? ⟨0, k, none⟩ = some (.int .u64 ((10 ^ k : Nat) : Int))
theorem Pows.below {w w' : World} (h : Pows w) (k : Below w.heap.size w w') : Pows w' := ⟨Nat.lt_of_lt_of_le h.1 k.size, fun j hj => (k.cell h.1).trans (h.2 j hj)⟩
theorem pow_lt {k : Nat} (h : k < 13) : 10 ^ k < 18446744073709551616 := Nat.lt_of_lt_of_le (Nat.pow_lt_pow_right (by omega) h) (by decide)

theorem dec_signed (a : Int) (ha : -9223372036854775808 ≤ a ∧ a ≤ 9223372036854775807) (k : Nat) (hk : k < 13) (up : Bool) (W : World) (B0 B1 : Nat) (l0 : B0 < W.heap.size) (l1 : B1 < W.heap.size) (c0 : W.cell? ⟨B0, 0, none⟩ = some (.int .i64 a)) (c1 : W.cell? ⟨B1, 0, none⟩ = some (.int .i64 (k : Int))) (hP : Pows W) :
    Calls Tryd.prog 107 #[.bool (decide (a < 0)), .bool up, .func (.func 108) #[] #[.pointer (some ⟨B0, 0, none⟩), .pointer (some ⟨B1, 0, none⟩)]] W fun e w' => e = .returned (.tuple #[.int .i64 (decOf up a k).1, .int .i64 (decOf up a k).2]) ∧ Below W.heap.size W w' :=
  fix_signed_dec (decide (a < 0)) up (.pointer (some ⟨B0, 0, none⟩)) (.pointer (some ⟨B1, 0, none⟩)) _ (quo_lt _ _ _) W (fix_dec1 a k (10 ^ k) ha (pow_lt hk) hk _ W B0 B1 l0 l1 c0 c1 hP.1 (hP.2 k hk))

theorem ret3 {k k' k'' : IntKind} {a b c : Int} {p : Int × Int × Int} (h : p = (a, b, c)) : Ending.returned (.tuple #[.int k a, .int k' b, .int k'' c]) = .returned (.tuple #[.int k p.1, .int k' p.2.1, .int k'' p.2.2]) := by rw [h]

def DecAt (p0 p1 : Int × Int) (j : Nat) (x y : Int) : Prop := (1 ≤ j → p0.2 = 0 ∧ x = p0.1) ∧ (2 ≤ j → p1.2 = 0 ∧ y = p1.1)
structure DecMem (w wr : World) (a : Int) (k : Nat) (x y : Int) : Prop where
  bel : Below w.heap.size w wr
  b0 : wr.heap[w.heap.size]? = some (.cells #[.int .i64 a] 3 (0, 0))
  b1 : wr.heap[w.heap.size + 1]? = some (.cells #[.int .i64 (k : Int)] 3 (0, 0))
  b2 : wr.heap[w.heap.size + 1 + 1]? = some (.cells #[.int .i64 x, .int .i64 y] 30 (0, 0))

theorem DecMem.start (w : World) (a : Int) (k : Nat) : DecMem w (((w.alloc (.cells #[.int .i64 a] 3)).alloc (.cells #[.int .i64 (k : Int)] 3)).alloc (.cells #[.int .i64 0, .int .i64 0] 30)) a k 0 0 where
  bel := (((Below.refl _ _).alloc (Nat.le_refl _) _).alloc (by simp) _).alloc (by simp; omega) _
  b0 := by
    rw [Below.heap_alloc _ _ _ (by simp; omega), Below.heap_alloc _ _ _ (by simp)]
    exact heap_alloc_new w _
  b1 := by
    rw [Below.heap_alloc _ _ _ (by simp)]
    have h := heap_alloc_new (w.alloc (.cells #[.int .i64 a] 3)) (.cells #[.int .i64 (k : Int)] 3)
    rw [show (w.alloc (.cells #[.int .i64 a] 3)).heap.size = w.heap.size + 1 by simp] at h
    exact h
  b2 := by
    have h := heap_alloc_new ((w.alloc (.cells #[.int .i64 a] 3)).alloc (.cells #[.int .i64 (k : Int)] 3)) (.cells #[.int .i64 0, .int .i64 0] 30)
    rw [show ((w.alloc (.cells #[.int .i64 a] 3)).alloc (.cells #[.int .i64 (k : Int)] 3)).heap.size = w.heap.size + 1 + 1 by simp] at h
    exact h

theorem DecMem.set0 {w wr w' : World} {a : Int} {k : Nat} {x y : Int} (h : DecMem w wr a k x y) (hb : Below wr.heap.size wr w') (z : Int) : DecMem w (w'.setCell ⟨w.heap.size + 1 + 1, 0, none⟩ (.int .i64 z)) a k z y where
  bel := (below_step h.bel hb).setCell (by simp; omega) _
  b0 := by rw [heap_setCell_other _ _ _ _ (by simp; omega), hb.block _ (lt_of_block h.b0)]; exact h.b0
  b1 := by rw [heap_setCell_other _ _ _ _ (by simp), hb.block _ (lt_of_block h.b1)]; exact h.b1
  b2 := by rw [heap_setCell_same _ _ _ _ _ _ ((hb.block _ (lt_of_block h.b2)).trans h.b2)]; rfl

theorem DecMem.set1 {w wr w' : World} {a : Int} {k : Nat} {x y : Int} (h : DecMem w wr a k x y) (hb : Below wr.heap.size wr w') (z : Int) : DecMem w (w'.setCell ⟨w.heap.size + 1 + 1, 1, none⟩ (.int .i64 z)) a k x z where
  bel := (below_step h.bel hb).setCell (by simp; omega) _
  b0 := by rw [heap_setCell_other _ _ _ _ (by simp; omega), hb.block _ (lt_of_block h.b0)]; exact h.b0
  b1 := by rw [heap_setCell_other _ _ _ _ (by simp), hb.block _ (lt_of_block h.b1)]; exact h.b1
  b2 := by rw [heap_setCell_same _ _ _ _ _ _ ((hb.block _ (lt_of_block h.b2)).trans h.b2)]; rfl

theorem cell_two0 {w : World} {b : Nat} {u v : Value} {t : TypeId} (h : w.heap[b]? = some (.cells #[u, v] t (0, 0))) : w.cell? ⟨b, 0, none⟩ = some u := by simp [World.cell?, h]
theorem cell_two1 {w : World} {b : Nat} {u v : Value} {t : TypeId} (h : w.heap[b]? = some (.cells #[u, v] t (0, 0))) : w.cell? ⟨b, 1, none⟩ = some v := by simp [World.cell?, h]
theorem free_two {w : World} {b i : Nat} {u v : Value} {t : TypeId} (h : w.heap[b]? = some (.cells #[u, v] t (0, 0))) : w.frozen? ⟨b, i, none⟩ = false := by simp [World.frozen?, h]

set_option maxRecDepth 100000 in
set_option maxHeartbeats 4000000 in
theorem fix_FromDec (a d : Int) (ha : -9223372036854775808 ≤ a ∧ a ≤ 9223372036854775807) (w : World) (hP : Pows w) :
    Calls Tryd.prog 41 #[.int .i64 a, .int .i64 d] w fun e w' => e = .returned (.tuple #[.int .i64 (dec a d).1, .int .i64 (dec a d).2.1, .int .i64 (dec a d).2.2]) ∧ Below w.heap.size w w' := by
  by_cases h1 : d < 0
  · have Hr := Lib.hid (dec_bad (a := a) (d := d) (by omega))
    clear ha hP
    go_enter Tryd.func41, Tryd.ntmps41
    go_wp2
    refine bodyPost_ret (v := .tuple #[.int .i64 0, .int .i64 0, .int .i64 2]) (by simp [results, Tryd.results41, go_sem]) rfl ?_
    exact ⟨ret3 Hr.out, ((Below.refl _ _).alloc (Nat.le_refl _) _).alloc (by simp) _⟩
  · by_cases h2 : 13 ≤ d
    · have Hr := Lib.hid (dec_bad (a := a) (d := d) (by omega))
      clear ha hP
      go_enter Tryd.func41, Tryd.ntmps41
      go_wp2
      refine bodyPost_ret (v := .tuple #[.int .i64 0, .int .i64 0, .int .i64 2]) (by simp [results, Tryd.results41, go_sem]) rfl ?_
      exact ⟨ret3 Hr.out, ((Below.refl _ _).alloc (Nat.le_refl _) _).alloc (by simp) _⟩
    · obtain ⟨k, rfl⟩ : ∃ k : Nat, d = k := ⟨d.toNat, by omega⟩
      have hk : k < 13 := by omega
      have b1 : decide ((k : Int) < 0) = false := by simp
      have b2 : decide ((13 : Int) ≤ (k : Int)) = false := by simp; omega
      clear h1 h2
      have Hr := Lib.hid (dec_in a hk)
      have HS0 := Lib.hid (dec_signed a ha k hk false)
      have HS1 := Lib.hid (dec_signed a ha k hk true)
      obtain ⟨p0, hp0⟩ : ∃ p0, p0 = decOf false a k := ⟨_, rfl⟩
      obtain ⟨p1, hp1⟩ : ∃ p1, p1 = decOf true a k := ⟨_, rfl⟩
      rw [← hp0] at HS0
      rw [← hp1] at HS1
      rw [← hp0, ← hp1] at Hr
      have HP := Lib.hid hP
      clear ha hk hP hp0 hp1
      go_enter Tryd.func41, Tryd.ntmps41
      go_wp2_with fail
      go_loopw [6, 16] (fun e i wr => ∃ (j : Nat) (x y : Int), j ≤ 2 ∧ i = .int .i64 j ∧ e = .int .i64 0 ∧ Hid (DecAt p0 p1 j x y) ∧ Hid (DecMem w wr a k x y)) (fun _ i _ => 2 - (intOf i).toNat)
      case atStart => exact ⟨0, 0, 0, by omega, rfl, rfl, Lib.hid ⟨fun h => by omega, fun h => by omega⟩, Lib.hid (DecMem.start w a k)⟩
      case round =>
        obtain ⟨j, x, y, hj, rfl, rfl, HD, HM⟩ := hrel
        rcases (by omega : j = 0 ∨ j = 1 ∨ j = 2) with rfl | rfl | rfl
        · have HSj := Lib.hid (HS0.out wr w.heap.size (w.heap.size + 1) (lt_of_block HM.out.b0) (lt_of_block HM.out.b1) (cell_of_one HM.out.b0) (cell_of_one HM.out.b1) (HP.out.below HM.out.bel))
          have l2 := lt_of_block HM.out.b2
          have g0 := cell_of_one HM.out.b0
          have f0 := cell_two0 HM.out.b2
          have f1 := free_two (i := 0) HM.out.b2
          by_cases hz : p0.2 = 0
          · have HZ := Lib.hid hz
            clear hz
            rw [HZ.out] at HSj
            go_wp2_with (go_at_call 107; refine (HSj.out).mono ?_; rintro e w' ⟨rfl, hbel⟩; have q1 := (hbel.cell (p := ⟨w.heap.size + 1 + 1, 0, none⟩) l2).trans f0; have q2 := (hbel.frozen (p := ⟨w.heap.size + 1 + 1, 0, none⟩) l2).trans f1)
            go_roundw
            case rel => exact ⟨1, p0.1, y, by omega, rfl, rfl, Lib.hid ⟨fun _ => ⟨HZ.out, rfl⟩, fun h => by omega⟩, Lib.hid (HM.out.set0 hbel _)⟩
            case measure => simp [intOf]
          · have HZ := Lib.hid hz
            have hz2 : decide (p0.2 = 0) = false := by simp [hz]
            go_wp2_with (go_at_call 107; refine (HSj.out).mono ?_; rintro e w' ⟨rfl, hbel⟩; have q1 := (hbel.cell (p := ⟨w.heap.size + 1 + 1, 0, none⟩) l2).trans f0; have q2 := (hbel.frozen (p := ⟨w.heap.size + 1 + 1, 0, none⟩) l2).trans f1)
            refine bodyPost_ret (v := .tuple #[.int .i64 0, .int .i64 0, .int .i64 p0.2]) (by simp [results, Tryd.results41, go_sem]) rfl ?_
            exact ⟨ret3 (by rw [Hr.out, if_neg HZ.out]), (HM.out.set0 hbel _).bel⟩
        · have HSj := Lib.hid (HS1.out wr w.heap.size (w.heap.size + 1) (lt_of_block HM.out.b0) (lt_of_block HM.out.b1) (cell_of_one HM.out.b0) (cell_of_one HM.out.b1) (HP.out.below HM.out.bel))
          have l2 := lt_of_block HM.out.b2
          have g0 := cell_of_one HM.out.b0
          have f0 := cell_two1 HM.out.b2
          have f1 := free_two (i := 1) HM.out.b2
          by_cases hz : p1.2 = 0
          · have HZ := Lib.hid hz
            clear hz
            rw [HZ.out] at HSj
            go_wp2_with (go_at_call 107; refine (HSj.out).mono ?_; rintro e w' ⟨rfl, hbel⟩; have q1 := (hbel.cell (p := ⟨w.heap.size + 1 + 1, 1, none⟩) l2).trans f0; have q2 := (hbel.frozen (p := ⟨w.heap.size + 1 + 1, 1, none⟩) l2).trans f1)
            go_roundw
            case rel => exact ⟨2, x, p1.1, by omega, rfl, rfl, Lib.hid ⟨fun _ => HD.out.1 (by omega), fun h => ⟨HZ.out, rfl⟩⟩, Lib.hid (HM.out.set1 hbel _)⟩
            case measure => simp [intOf]
          · have HZ := Lib.hid hz
            have hz2 : decide (p1.2 = 0) = false := by simp [hz]
            go_wp2_with (go_at_call 107; refine (HSj.out).mono ?_; rintro e w' ⟨rfl, hbel⟩; have q1 := (hbel.cell (p := ⟨w.heap.size + 1 + 1, 1, none⟩) l2).trans f0; have q2 := (hbel.frozen (p := ⟨w.heap.size + 1 + 1, 1, none⟩) l2).trans f1)
            refine bodyPost_ret (v := .tuple #[.int .i64 0, .int .i64 0, .int .i64 p1.2]) (by simp [results, Tryd.results41, go_sem]) rfl ?_
            exact ⟨ret3 (by rw [Hr.out, if_pos (HD.out.1 (by omega)).1, if_neg HZ.out]), (HM.out.set1 hbel _).bel⟩
        · have f0 := cell_two0 HM.out.b2
          have f1 := cell_two1 HM.out.b2
          go_upto_region 11 with (fail)
          go_quiet (fail)
          go_wp2
          refine bodyPost_ret (v := .tuple #[.int .i64 x, .int .i64 y, .int .i64 0]) (by simp [results, Tryd.results41, go_sem]) rfl ?_
          exact ⟨ret3 (by rw [Hr.out, if_pos (HD.out.1 (by omega)).1, if_pos (HD.out.2 (by omega)).1, (HD.out.1 (by omega)).2, (HD.out.2 (by omega)).2]), below_step HM.out.bel (below_drewN (Below.refl _ _) _)⟩
end Go.Proofs.YtgfofilkpaelnaaDoor
