/- Contracts of the reference of layer 6. Printed by wip/genV6.py. -/
import Derived.Test.YtmnccbhlllnlbaaGreatLawV
import Derived.Test.YtmnccbhlllnlbaaGreatLawVS
import Derived.Test.YtmnccbhlllnlbaaGreatVecLaw
import Derived.Test.YtmnccbhlllnlbaaGreatRefSD
import Derived.Test.YtmnccbhlllnlbaaGreatRefSE
namespace Mnc
/-- The first error of a list. -/
def fstL : List Int → Int
  | [] => 0
  | a :: l => if a = 0 then fstL l else a
theorem fstL_three (e f g : Int) : fstL [e, f, g] = fst2 (fst2 (fst2 0 e) f) g := by
  unfold fst2 fstL fstL fstL fstL
  by_cases h : e = 0
  · subst h
    by_cases k : f = 0
    · subst k
      by_cases m : g = 0 <;> simp [m]
    · simp [k]
  · simp [h]
theorem fstL_two (e f : Int) : fstL [e, f] = fst2 (fst2 0 e) f := by
  unfold fst2 fstL fstL fstL
  by_cases h : e = 0
  · subst h
    by_cases k : f = 0 <;> simp [k]
  · simp [h]
theorem fstL_drop : ∀ (l : List Int) (k : Nat) (a : Int), (∀ j, j < k → l[j]? = some 0) → l[k]? = some a → a ≠ 0 → fstL l = a
  | [], k, a, _, h, _ => by simp at h
  | b :: l, 0, a, _, h, ha => by
    obtain rfl : b = a := by simpa using h
    unfold fstL
    rw [if_neg ha]
  | b :: l, k + 1, a, hz, h, ha => by
    obtain rfl : b = 0 := by simpa using hz 0 (by omega)
    unfold fstL
    rw [if_pos rfl]
    exact fstL_drop l k a (fun j hj => by simpa using hz (j + 1) (by omega)) (by simpa using h) ha
theorem fstL_none : ∀ (l : List Int), (∀ j, j < l.length → l[j]? = some 0) → fstL l = 0
  | [], _ => rfl
  | b :: l, hz => by
    obtain rfl : b = 0 := by simpa using hz 0 (by simp)
    unfold fstL
    rw [if_pos rfl]
    exact fstL_none l fun j hj => by simpa using hz (j + 1) (by simp; omega)
/-- The sum of three results; a difference of products. -/
def rThree (x y z : (Int × Int) × Int) : (Int × Int) × Int :=
  if fst2 (fst2 (fst2 0 x.2) y.2) z.2 = 0 then (if (sAdd x.1 y.1).2 = 0 then sAdd (sAdd x.1 y.1).1 z.1 else ((0, 0), (sAdd x.1 y.1).2)) else ((0, 0), fst2 (fst2 (fst2 0 x.2) y.2) z.2)
def rLess (a b c d : Int × Int) : (Int × Int) × Int :=
  if fst2 (fst2 0 (sMul a b).2) (sMul c d).2 = 0 then sSub (sMul a b).1 (sMul c d).1 else ((0, 0), fst2 (fst2 0 (sMul a b).2) (sMul c d).2)
def rVec (x y z : (Int × Int) × Int) : V3 × Int := toldV (x.1, y.1, z.1) (fst2 (fst2 (fst2 0 x.2) y.2) z.2)
end Mnc
namespace Go.Proofs.YtmnccbhlllnlbaaGreat
open Go.RowKit Mnc
attribute [local go_sem] RunS_value RunS_skip RunS_enter evS_tmp evS_const evS_global evS_func
set_option maxRecDepth 100000 in
set_option maxHeartbeats 600000 in
theorem ref6_First (l : List Int) (h3 : l.length ≤ 3) (g : Nat) (w : World) (h : w.heap[g]? = some (.cells (l.map fun e => Value.int .i64 e).toArray 37 (0, 0))) :
    Calls Tryz.prog 69 #[.slice (some ⟨g, 0, none⟩) l.length l.length] w fun e w' => e = .returned (.int .i64 (fstL l)) ∧ Below w.heap.size w w' := by
  have HH := Lib.hid (show Below w.heap.size w w ∧ w.heap[g]? = some (.cells (l.map fun e => Value.int .i64 e).toArray 37 (0, 0)) from ⟨Below.refl _ _, h⟩)
  clear h
  go_enter Tryz.func69, Tryz.ntmps69
  go_wp2_with fail
  go_loopw [3] (fun i wr => ∃ k : Nat, k ≤ l.length ∧ i = .int .i64 k ∧ Hid (∀ j, j < k → l[j]? = some 0) ∧ Hid (Below w.heap.size w wr ∧ wr.heap[g]? = some (.cells (l.map fun e => Value.int .i64 e).toArray 37 (0, 0)))) (fun i _ => l.length - (intOf i).toNat)
  case atStart => exact ⟨0, by omega, rfl, Lib.hid (fun j hj => by omega), HH⟩
  case round =>
    clear HH
    obtain ⟨k, hk, rfl, HZ, HH⟩ := hrel
    rcases Nat.lt_or_ge k l.length with hk' | hk'
    · obtain ⟨a, ha⟩ : ∃ a, l[k]? = some a := ⟨_, List.getElem?_eq_getElem hk'⟩
      have hg := lt_of_block HH.out.2
      have c0 : wr.cell? ⟨g, k, none⟩ = some (.int .i64 a) := by
        rw [cell_of_row wr g _ _ _ _ HH.out.2]
        simp [ha]
      by_cases hz : a = 0
      · subst hz
        have HN : Hid (∀ j, j < k + 1 → l[j]? = some 0) := Lib.hid fun j hj => by
          rcases Nat.lt_or_ge j k with h | h
          · exact HZ.out j h
          · obtain rfl : j = k := by omega
            exact ha
        clear ha
        go_wp2_with fail
        go_roundw
        case rel => exact ⟨k + 1, by omega, by go_num, HN, HH⟩
        case measure => simp [intOf]; omega
      · have HR := Lib.hid (fstL_drop l k a HZ.out ha hz)
        have hz2 : (a == 0) = false := by simp [hz]
        clear ha
        go_wp2_with fail
        go_ret
        exact ⟨by rw [HR.out]; rfl, HH.out.1⟩
    · have HR := Lib.hid (fstL_none l (fun j hj => HZ.out j (by omega)))
      have hk2 : k = l.length := by omega
      subst hk2
      go_wp2_with fail
      go_ret
      exact ⟨by rw [HR.out]; rfl, HH.out.1⟩
theorem vNote_bad {a : V3} (h : ¬ okV a) : vNote 0 a = 20 := by
  unfold vNote fst2 sChk
  unfold okV at h
  by_cases g1 : okS a.1
  · by_cases g2 : okS a.2.1
    · have g3 : ¬ okS a.2.2 := fun g => h ⟨g1, g2, g⟩
      simp [g1, g2, g3]
    · simp [g1, g2]
  · simp [g1]
set_option maxRecDepth 100000 in
set_option maxHeartbeats 600000 in
theorem ref6_Right_ok {a : V3} (h : okV a) (w : World) : Calls Tryz.prog 39 #[.agg #[.int .i64 a.1.1, .int .i64 a.1.2, .int .i64 a.2.1.1, .int .i64 a.2.1.2, .int .i64 a.2.2.1, .int .i64 a.2.2.2]] w fun e w' => e = .returned (.bool true) ∧ Below w.heap.size w w' := by
  have hK : Kv w (w.alloc (.cells #[.int .i64 a.1.1, .int .i64 a.1.2, .int .i64 a.2.1.1, .int .i64 a.2.1.2, .int .i64 a.2.2.1, .int .i64 a.2.2.2] 25)) [(w.heap.size, vobj (vl a))] := (Kv.start w).al (vobj (vl a)) (n := w.heap.size) rfl
  have h1 := Lib.hid h.1
  have h2 := Lib.hid h.2.1
  have h3 := Lib.hid h.2.2
  clear h
  go_enter Tryz.func39, Tryz.ntmps39
  obtain ⟨ca0, ca1, ca2, ca3, ca4, ca5⟩ := vobj_six (hK.blk _ (List.Mem.head _))
  have la := lt_of_block (hK.blk _ (List.Mem.head _))
  go_wp2_with fail
  refine (ref2_Right_ok h1.out _).mono ?_; rintro e w1 ⟨rfl, hb⟩
  replace hK := hK.on hb
  clear ca0 ca1 ca2 ca3 ca4 ca5 la hb
  obtain ⟨ca0, ca1, ca2, ca3, ca4, ca5⟩ := vobj_six (hK.blk _ (List.Mem.head _))
  have la := lt_of_block (hK.blk _ (List.Mem.head _))
  go_wp2_with fail
  refine (ref2_Right_ok h2.out _).mono ?_; rintro e w2 ⟨rfl, hb⟩
  replace hK := hK.on hb
  clear ca0 ca1 ca2 ca3 ca4 ca5 la hb
  obtain ⟨ca0, ca1, ca2, ca3, ca4, ca5⟩ := vobj_six (hK.blk _ (List.Mem.head _))
  have la := lt_of_block (hK.blk _ (List.Mem.head _))
  go_wp2_with fail
  refine (ref2_Right_ok h3.out _).mono ?_; rintro e w3 ⟨rfl, hb⟩
  replace hK := hK.on hb
  clear ca0 ca1 ca2 ca3 ca4 ca5 la hb
  go_wp2_with fail
  go_ret
  exact ⟨rfl, hK.bel⟩
set_option maxRecDepth 100000 in
set_option maxHeartbeats 600000 in
theorem ref6_Right_bad {a : V3} (h : ¬ okV a) (w : World) : Calls Tryz.prog 39 #[.agg #[.int .i64 a.1.1, .int .i64 a.1.2, .int .i64 a.2.1.1, .int .i64 a.2.1.2, .int .i64 a.2.2.1, .int .i64 a.2.2.2]] w fun e w' => e = .returned (.bool false) ∧ Below w.heap.size w w' := by
  have hK : Kv w (w.alloc (.cells #[.int .i64 a.1.1, .int .i64 a.1.2, .int .i64 a.2.1.1, .int .i64 a.2.1.2, .int .i64 a.2.2.1, .int .i64 a.2.2.2] 25)) [(w.heap.size, vobj (vl a))] := (Kv.start w).al (vobj (vl a)) (n := w.heap.size) rfl
  by_cases g1 : okS a.1
  · by_cases g2 : okS a.2.1
    · have h3 := Lib.hid (show ¬ okS a.2.2 from fun g3 => h ⟨g1, g2, g3⟩)
      have h1 := Lib.hid g1
      have h2 := Lib.hid g2
      clear h g1 g2
      go_enter Tryz.func39, Tryz.ntmps39
      obtain ⟨ca0, ca1, ca2, ca3, ca4, ca5⟩ := vobj_six (hK.blk _ (List.Mem.head _))
      have la := lt_of_block (hK.blk _ (List.Mem.head _))
      go_wp2_with fail
      refine (ref2_Right_ok h1.out _).mono ?_; rintro e w1 ⟨rfl, hb⟩
      replace hK := hK.on hb
      clear ca0 ca1 ca2 ca3 ca4 ca5 la hb
      obtain ⟨ca0, ca1, ca2, ca3, ca4, ca5⟩ := vobj_six (hK.blk _ (List.Mem.head _))
      have la := lt_of_block (hK.blk _ (List.Mem.head _))
      go_wp2_with fail
      refine (ref2_Right_ok h2.out _).mono ?_; rintro e w2 ⟨rfl, hb⟩
      replace hK := hK.on hb
      clear ca0 ca1 ca2 ca3 ca4 ca5 la hb
      obtain ⟨ca0, ca1, ca2, ca3, ca4, ca5⟩ := vobj_six (hK.blk _ (List.Mem.head _))
      have la := lt_of_block (hK.blk _ (List.Mem.head _))
      go_wp2_with fail
      refine (ref2_Right_bad h3.out _).mono ?_; rintro e w3 ⟨rfl, hb⟩
      replace hK := hK.on hb
      clear ca0 ca1 ca2 ca3 ca4 ca5 la hb
      go_wp2_with fail
      go_ret
      exact ⟨rfl, hK.bel⟩
    · have h1 := Lib.hid g1
      have h2 := Lib.hid g2
      clear h g1 g2
      go_enter Tryz.func39, Tryz.ntmps39
      obtain ⟨ca0, ca1, ca2, ca3, ca4, ca5⟩ := vobj_six (hK.blk _ (List.Mem.head _))
      have la := lt_of_block (hK.blk _ (List.Mem.head _))
      go_wp2_with fail
      refine (ref2_Right_ok h1.out _).mono ?_; rintro e w1 ⟨rfl, hb⟩
      replace hK := hK.on hb
      clear ca0 ca1 ca2 ca3 ca4 ca5 la hb
      obtain ⟨ca0, ca1, ca2, ca3, ca4, ca5⟩ := vobj_six (hK.blk _ (List.Mem.head _))
      have la := lt_of_block (hK.blk _ (List.Mem.head _))
      go_wp2_with fail
      refine (ref2_Right_bad h2.out _).mono ?_; rintro e w2 ⟨rfl, hb⟩
      replace hK := hK.on hb
      clear ca0 ca1 ca2 ca3 ca4 ca5 la hb
      go_wp2_with fail
      go_ret
      exact ⟨rfl, hK.bel⟩
  · have h1 := Lib.hid g1
    clear h g1
    go_enter Tryz.func39, Tryz.ntmps39
    obtain ⟨ca0, ca1, ca2, ca3, ca4, ca5⟩ := vobj_six (hK.blk _ (List.Mem.head _))
    have la := lt_of_block (hK.blk _ (List.Mem.head _))
    go_wp2_with fail
    refine (ref2_Right_bad h1.out _).mono ?_; rintro e w1 ⟨rfl, hb⟩
    replace hK := hK.on hb
    clear ca0 ca1 ca2 ca3 ca4 ca5 la hb
    go_wp2_with fail
    go_ret
    exact ⟨rfl, hK.bel⟩
set_option maxRecDepth 100000 in
set_option maxHeartbeats 600000 in
theorem ref6_Check (a : V3) (w : World) : Calls Tryz.prog 15 #[.agg #[.int .i64 a.1.1, .int .i64 a.1.2, .int .i64 a.2.1.1, .int .i64 a.2.1.2, .int .i64 a.2.2.1, .int .i64 a.2.2.2]] w fun e w' => e = .returned (.int .i64 (vNote 0 a)) ∧ Below w.heap.size w w' := by
  have hK : Kv w (w.alloc (.cells #[.int .i64 a.1.1, .int .i64 a.1.2, .int .i64 a.2.1.1, .int .i64 a.2.1.2, .int .i64 a.2.2.1, .int .i64 a.2.2.2] 25)) [(w.heap.size, vobj (vl a))] := (Kv.start w).al (vobj (vl a)) (n := w.heap.size) rfl
  by_cases h : okV a
  · have HV := Lib.hid (show vNote 0 a = 0 from vNote_ok h)
    have H := Lib.hid h
    clear h
    go_enter Tryz.func15, Tryz.ntmps15
    obtain ⟨ca0, ca1, ca2, ca3, ca4, ca5⟩ := vobj_six (hK.blk _ (List.Mem.head _))
    have la := lt_of_block (hK.blk _ (List.Mem.head _))
    go_wp2_with fail
    refine (ref6_Right_ok H.out _).mono ?_; rintro e w1 ⟨rfl, hb⟩
    replace hK := hK.on hb
    clear ca0 ca1 ca2 ca3 ca4 ca5 la hb
    go_wp2_with fail
    go_ret
    exact ⟨by rw [HV.out]; rfl, hK.bel⟩
  · have HV := Lib.hid (show vNote 0 a = 20 from vNote_bad h)
    have H := Lib.hid h
    clear h
    go_enter Tryz.func15, Tryz.ntmps15
    obtain ⟨ca0, ca1, ca2, ca3, ca4, ca5⟩ := vobj_six (hK.blk _ (List.Mem.head _))
    have la := lt_of_block (hK.blk _ (List.Mem.head _))
    go_wp2_with fail
    refine (ref6_Right_bad H.out _).mono ?_; rintro e w1 ⟨rfl, hb⟩
    replace hK := hK.on hb
    clear ca0 ca1 ca2 ca3 ca4 ca5 la hb
    go_wp2_with fail
    go_ret
    exact ⟨by rw [HV.out]; rfl, hK.bel⟩
set_option maxRecDepth 100000 in
set_option maxHeartbeats 600000 in
theorem ref6_vector (x y z : (Int × Int) × Int) (w : World) : Calls Tryz.prog 41 #[.agg #[.int .i64 x.1.1, .int .i64 x.1.2], .int .i64 x.2, .agg #[.int .i64 y.1.1, .int .i64 y.1.2], .int .i64 y.2, .agg #[.int .i64 z.1.1, .int .i64 z.1.2], .int .i64 z.2] w fun e w' => e = .returned (.tuple #[.agg #[.int .i64 (rVec x y z).1.1.1, .int .i64 (rVec x y z).1.1.2, .int .i64 (rVec x y z).1.2.1.1, .int .i64 (rVec x y z).1.2.1.2, .int .i64 (rVec x y z).1.2.2.1, .int .i64 (rVec x y z).1.2.2.2], .int .i64 (rVec x y z).2]) ∧ Below w.heap.size w w' := by
  obtain ⟨n, hn⟩ : ∃ n, fst2 (fst2 (fst2 0 x.2) y.2) z.2 = n := ⟨_, rfl⟩
  have HN := Lib.hid ((fstL_three x.2 y.2 z.2).trans hn)
  by_cases he : n = 0
  · have HR := Lib.hid (show rVec x y z = ((x.1, y.1, z.1), 0) from by unfold rVec; rw [hn]; exact toldV_of he)
    clear hn
    rw [HR.out]
    subst he
    have hK : Kv w ((((w.alloc (.cells #[.int .i64 x.1.1, .int .i64 x.1.2] 23)).alloc (.cells #[.int .i64 y.1.1, .int .i64 y.1.2] 23)).alloc (.cells #[.int .i64 z.1.1, .int .i64 z.1.2] 23)).alloc (.cells #[.int .i64 0, .int .i64 0, .int .i64 0, .int .i64 0, .int .i64 0, .int .i64 0] 25)) [(w.heap.size + 1 + 1 + 1, vobj (vl v30)), (w.heap.size + 1 + 1, .cells #[.int .i64 z.1.1, .int .i64 z.1.2] 23 (0, 0)), (w.heap.size + 1, .cells #[.int .i64 y.1.1, .int .i64 y.1.2] 23 (0, 0)), (w.heap.size, .cells #[.int .i64 x.1.1, .int .i64 x.1.2] 23 (0, 0))] := (((((Kv.start w).al (.cells #[.int .i64 x.1.1, .int .i64 x.1.2] 23 (0, 0)) (n := w.heap.size) (by simp)).al (.cells #[.int .i64 y.1.1, .int .i64 y.1.2] 23 (0, 0)) (n := w.heap.size + 1) (by simp)).al (.cells #[.int .i64 z.1.1, .int .i64 z.1.2] 23 (0, 0)) (n := w.heap.size + 1 + 1) (by simp)).al (vobj (vl v30)) (n := w.heap.size + 1 + 1 + 1) (by simp))
    have gR : w.heap.size ≤ w.heap.size + 1 + 1 + 1 := by omega
    have nR_x1 : w.heap.size + 1 + 1 + 1 ≠ w.heap.size := by omega
    have nR_y1 : w.heap.size + 1 + 1 + 1 ≠ w.heap.size + 1 := by omega
    have nR_z1 : w.heap.size + 1 + 1 + 1 ≠ w.heap.size + 1 + 1 := by omega
    go_enter Tryz.func41, Tryz.ntmps41
    have nl18_R : w.heap.size + 1 + 1 + 1 + 1 ≠ w.heap.size + 1 + 1 + 1 := by have h := lt_of_block (hK.blk _ (List.Mem.head _)); first | exact Nat.ne_of_gt h | (simp at h; omega)
    replace hK : Kv w (((((w.alloc (.cells #[.int .i64 x.1.1, .int .i64 x.1.2] 23)).alloc (.cells #[.int .i64 y.1.1, .int .i64 y.1.2] 23)).alloc (.cells #[.int .i64 z.1.1, .int .i64 z.1.2] 23)).alloc (.cells #[.int .i64 0, .int .i64 0, .int .i64 0, .int .i64 0, .int .i64 0, .int .i64 0] 25)).alloc (.cells #[.int .i64 x.2, .int .i64 y.2, .int .i64 z.2] 37)) [(w.heap.size + 1 + 1 + 1 + 1, .cells #[.int .i64 x.2, .int .i64 y.2, .int .i64 z.2] 37 (0, 0)), (w.heap.size + 1 + 1 + 1, vobj (vl v30)), (w.heap.size + 1 + 1, .cells #[.int .i64 z.1.1, .int .i64 z.1.2] 23 (0, 0)), (w.heap.size + 1, .cells #[.int .i64 y.1.1, .int .i64 y.1.2] 23 (0, 0)), (w.heap.size, .cells #[.int .i64 x.1.1, .int .i64 x.1.2] 23 (0, 0))] := hK.al (.cells #[.int .i64 x.2, .int .i64 y.2, .int .i64 z.2] 37 (0, 0)) (n := w.heap.size + 1 + 1 + 1 + 1) (by simp)
    go_wp2_with fail
    refine ((ref6_First [x.2, y.2, z.2] (by simp) _ _ (hK.blk _ (List.Mem.head _)))).mono ?_; rintro e w1 ⟨rfl, hb⟩
    replace hK := hK.on hb
    clear hb
    rw [HN.out]
    have cx10 := cell_two0 (hK.blk _ (List.Mem.tail _ (List.Mem.tail _ (List.Mem.tail _ (List.Mem.tail _ (List.Mem.head _))))))
    have cx11 := cell_two1 (hK.blk _ (List.Mem.tail _ (List.Mem.tail _ (List.Mem.tail _ (List.Mem.tail _ (List.Mem.head _))))))
    have lx1 := lt_of_block (hK.blk _ (List.Mem.tail _ (List.Mem.tail _ (List.Mem.tail _ (List.Mem.tail _ (List.Mem.head _))))))
    have cy10 := cell_two0 (hK.blk _ (List.Mem.tail _ (List.Mem.tail _ (List.Mem.tail _ (List.Mem.head _)))))
    have cy11 := cell_two1 (hK.blk _ (List.Mem.tail _ (List.Mem.tail _ (List.Mem.tail _ (List.Mem.head _)))))
    have ly1 := lt_of_block (hK.blk _ (List.Mem.tail _ (List.Mem.tail _ (List.Mem.tail _ (List.Mem.head _)))))
    have cz10 := cell_two0 (hK.blk _ (List.Mem.tail _ (List.Mem.tail _ (List.Mem.head _))))
    have cz11 := cell_two1 (hK.blk _ (List.Mem.tail _ (List.Mem.tail _ (List.Mem.head _))))
    have lz1 := lt_of_block (hK.blk _ (List.Mem.tail _ (List.Mem.tail _ (List.Mem.head _))))
    obtain ⟨cR0, cR1, cR2, cR3, cR4, cR5⟩ := vobj_six (hK.blk _ (List.Mem.tail _ (List.Mem.head _)))
    simp only [v30] at cR0 cR1 cR2 cR3 cR4 cR5
    have lR := lt_of_block (hK.blk _ (List.Mem.tail _ (List.Mem.head _)))
    have fR0 := vobj_free (hK.blk _ (List.Mem.tail _ (List.Mem.head _))) 0
    have fR1 := vobj_free (hK.blk _ (List.Mem.tail _ (List.Mem.head _))) 1
    have fR2 := vobj_free (hK.blk _ (List.Mem.tail _ (List.Mem.head _))) 2
    have fR3 := vobj_free (hK.blk _ (List.Mem.tail _ (List.Mem.head _))) 3
    have fR4 := vobj_free (hK.blk _ (List.Mem.tail _ (List.Mem.head _))) 4
    have fR5 := vobj_free (hK.blk _ (List.Mem.tail _ (List.Mem.head _))) 5
    replace hK : Kv w ((((((w1.setCell ⟨w.heap.size + 1 + 1 + 1, 0, none⟩ (.int .i64 x.1.1)).setCell ⟨w.heap.size + 1 + 1 + 1, 1, none⟩ (.int .i64 x.1.2)).setCell ⟨w.heap.size + 1 + 1 + 1, 2, none⟩ (.int .i64 y.1.1)).setCell ⟨w.heap.size + 1 + 1 + 1, 3, none⟩ (.int .i64 y.1.2)).setCell ⟨w.heap.size + 1 + 1 + 1, 4, none⟩ (.int .i64 z.1.1)).setCell ⟨w.heap.size + 1 + 1 + 1, 5, none⟩ (.int .i64 z.1.2)) [(w.heap.size + 1 + 1 + 1 + 1, .cells #[.int .i64 x.2, .int .i64 y.2, .int .i64 z.2] 37 (0, 0)), (w.heap.size + 1 + 1 + 1, vobj (vl ((x.1, y.1, z.1)))), (w.heap.size + 1 + 1, .cells #[.int .i64 z.1.1, .int .i64 z.1.2] 23 (0, 0)), (w.heap.size + 1, .cells #[.int .i64 y.1.1, .int .i64 y.1.2] 23 (0, 0)), (w.heap.size, .cells #[.int .i64 x.1.1, .int .i64 x.1.2] 23 (0, 0))] := hK.seta (a := v30) (cs := [(w.heap.size + 1 + 1 + 1 + 1, .cells #[.int .i64 x.2, .int .i64 y.2, .int .i64 z.2] 37 (0, 0)), (w.heap.size + 1 + 1 + 1, vobj (vl ((x.1, y.1, z.1)))), (w.heap.size + 1 + 1, .cells #[.int .i64 z.1.1, .int .i64 z.1.2] 23 (0, 0)), (w.heap.size + 1, .cells #[.int .i64 y.1.1, .int .i64 y.1.2] 23 (0, 0)), (w.heap.size, .cells #[.int .i64 x.1.1, .int .i64 x.1.2] 23 (0, 0))]) (List.Mem.tail _ (List.Mem.head _)) gR (x.1, y.1, z.1) (List.forall_mem_cons.2 ⟨.inr ⟨(List.Mem.head _), nl18_R⟩, (List.forall_mem_cons.2 ⟨.inl rfl, (List.forall_mem_cons.2 ⟨.inr ⟨(List.Mem.tail _ (List.Mem.tail _ (List.Mem.head _))), (Ne.symm nR_z1)⟩, (List.forall_mem_cons.2 ⟨.inr ⟨(List.Mem.tail _ (List.Mem.tail _ (List.Mem.tail _ (List.Mem.head _)))), (Ne.symm nR_y1)⟩, (List.forall_mem_cons.2 ⟨.inr ⟨(List.Mem.tail _ (List.Mem.tail _ (List.Mem.tail _ (List.Mem.tail _ (List.Mem.head _))))), (Ne.symm nR_x1)⟩, (List.forall_mem_nil _)⟩)⟩)⟩)⟩)⟩)
    have HKK := Lib.hid hK
    clear hK
    go_wp2_with fail
    have hK := HKK.out
    have gs := vobj_six (hK.blk _ (List.Mem.tail _ (List.Mem.head _)))
    try dsimp only at gs
    obtain ⟨r0, r1, r2, r3, r4, r5⟩ := gs
    exact bodyPost_ret (v := .tuple #[.agg #[.int .i64 x.1.1, .int .i64 x.1.2, .int .i64 y.1.1, .int .i64 y.1.2, .int .i64 z.1.1, .int .i64 z.1.2], .int .i64 0]) (by simp [results, Tryz.results41, go_sem, r0, r1, r2, r3, r4, r5]) rfl ⟨rfl, hK.bel⟩
  · have HR := Lib.hid (show rVec x y z = (v30, n) from by unfold rVec; rw [hn]; exact if_neg he)
    clear hn
    rw [HR.out]
    dsimp only [v30]
    have q0 : (n == 0) = false := by simp [he]
    have hK : Kv w ((((w.alloc (.cells #[.int .i64 x.1.1, .int .i64 x.1.2] 23)).alloc (.cells #[.int .i64 y.1.1, .int .i64 y.1.2] 23)).alloc (.cells #[.int .i64 z.1.1, .int .i64 z.1.2] 23)).alloc (.cells #[.int .i64 0, .int .i64 0, .int .i64 0, .int .i64 0, .int .i64 0, .int .i64 0] 25)) [(w.heap.size + 1 + 1 + 1, vobj (vl v30)), (w.heap.size + 1 + 1, .cells #[.int .i64 z.1.1, .int .i64 z.1.2] 23 (0, 0)), (w.heap.size + 1, .cells #[.int .i64 y.1.1, .int .i64 y.1.2] 23 (0, 0)), (w.heap.size, .cells #[.int .i64 x.1.1, .int .i64 x.1.2] 23 (0, 0))] := (((((Kv.start w).al (.cells #[.int .i64 x.1.1, .int .i64 x.1.2] 23 (0, 0)) (n := w.heap.size) (by simp)).al (.cells #[.int .i64 y.1.1, .int .i64 y.1.2] 23 (0, 0)) (n := w.heap.size + 1) (by simp)).al (.cells #[.int .i64 z.1.1, .int .i64 z.1.2] 23 (0, 0)) (n := w.heap.size + 1 + 1) (by simp)).al (vobj (vl v30)) (n := w.heap.size + 1 + 1 + 1) (by simp))
    have gR : w.heap.size ≤ w.heap.size + 1 + 1 + 1 := by omega
    have nR_x1 : w.heap.size + 1 + 1 + 1 ≠ w.heap.size := by omega
    have nR_y1 : w.heap.size + 1 + 1 + 1 ≠ w.heap.size + 1 := by omega
    have nR_z1 : w.heap.size + 1 + 1 + 1 ≠ w.heap.size + 1 + 1 := by omega
    go_enter Tryz.func41, Tryz.ntmps41
    have nl18_R : w.heap.size + 1 + 1 + 1 + 1 ≠ w.heap.size + 1 + 1 + 1 := by have h := lt_of_block (hK.blk _ (List.Mem.head _)); first | exact Nat.ne_of_gt h | (simp at h; omega)
    replace hK : Kv w (((((w.alloc (.cells #[.int .i64 x.1.1, .int .i64 x.1.2] 23)).alloc (.cells #[.int .i64 y.1.1, .int .i64 y.1.2] 23)).alloc (.cells #[.int .i64 z.1.1, .int .i64 z.1.2] 23)).alloc (.cells #[.int .i64 0, .int .i64 0, .int .i64 0, .int .i64 0, .int .i64 0, .int .i64 0] 25)).alloc (.cells #[.int .i64 x.2, .int .i64 y.2, .int .i64 z.2] 37)) [(w.heap.size + 1 + 1 + 1 + 1, .cells #[.int .i64 x.2, .int .i64 y.2, .int .i64 z.2] 37 (0, 0)), (w.heap.size + 1 + 1 + 1, vobj (vl v30)), (w.heap.size + 1 + 1, .cells #[.int .i64 z.1.1, .int .i64 z.1.2] 23 (0, 0)), (w.heap.size + 1, .cells #[.int .i64 y.1.1, .int .i64 y.1.2] 23 (0, 0)), (w.heap.size, .cells #[.int .i64 x.1.1, .int .i64 x.1.2] 23 (0, 0))] := hK.al (.cells #[.int .i64 x.2, .int .i64 y.2, .int .i64 z.2] 37 (0, 0)) (n := w.heap.size + 1 + 1 + 1 + 1) (by simp)
    go_wp2_with fail
    refine ((ref6_First [x.2, y.2, z.2] (by simp) _ _ (hK.blk _ (List.Mem.head _)))).mono ?_; rintro e w1 ⟨rfl, hb⟩
    replace hK := hK.on hb
    clear hb
    rw [HN.out]
    obtain ⟨cR0, cR1, cR2, cR3, cR4, cR5⟩ := vobj_six (hK.blk _ (List.Mem.tail _ (List.Mem.head _)))
    simp only [v30] at cR0 cR1 cR2 cR3 cR4 cR5
    have lR := lt_of_block (hK.blk _ (List.Mem.tail _ (List.Mem.head _)))
    have fR0 := vobj_free (hK.blk _ (List.Mem.tail _ (List.Mem.head _))) 0
    have fR1 := vobj_free (hK.blk _ (List.Mem.tail _ (List.Mem.head _))) 1
    have fR2 := vobj_free (hK.blk _ (List.Mem.tail _ (List.Mem.head _))) 2
    have fR3 := vobj_free (hK.blk _ (List.Mem.tail _ (List.Mem.head _))) 3
    have fR4 := vobj_free (hK.blk _ (List.Mem.tail _ (List.Mem.head _))) 4
    have fR5 := vobj_free (hK.blk _ (List.Mem.tail _ (List.Mem.head _))) 5
    replace hK : Kv w ((((((w1.setCell ⟨w.heap.size + 1 + 1 + 1, 0, none⟩ (.int .i64 0)).setCell ⟨w.heap.size + 1 + 1 + 1, 1, none⟩ (.int .i64 0)).setCell ⟨w.heap.size + 1 + 1 + 1, 2, none⟩ (.int .i64 0)).setCell ⟨w.heap.size + 1 + 1 + 1, 3, none⟩ (.int .i64 0)).setCell ⟨w.heap.size + 1 + 1 + 1, 4, none⟩ (.int .i64 0)).setCell ⟨w.heap.size + 1 + 1 + 1, 5, none⟩ (.int .i64 0)) [(w.heap.size + 1 + 1 + 1 + 1, .cells #[.int .i64 x.2, .int .i64 y.2, .int .i64 z.2] 37 (0, 0)), (w.heap.size + 1 + 1 + 1, vobj (vl v30)), (w.heap.size + 1 + 1, .cells #[.int .i64 z.1.1, .int .i64 z.1.2] 23 (0, 0)), (w.heap.size + 1, .cells #[.int .i64 y.1.1, .int .i64 y.1.2] 23 (0, 0)), (w.heap.size, .cells #[.int .i64 x.1.1, .int .i64 x.1.2] 23 (0, 0))] := hK.seta (a := v30) (cs := [(w.heap.size + 1 + 1 + 1 + 1, .cells #[.int .i64 x.2, .int .i64 y.2, .int .i64 z.2] 37 (0, 0)), (w.heap.size + 1 + 1 + 1, vobj (vl v30)), (w.heap.size + 1 + 1, .cells #[.int .i64 z.1.1, .int .i64 z.1.2] 23 (0, 0)), (w.heap.size + 1, .cells #[.int .i64 y.1.1, .int .i64 y.1.2] 23 (0, 0)), (w.heap.size, .cells #[.int .i64 x.1.1, .int .i64 x.1.2] 23 (0, 0))]) (List.Mem.tail _ (List.Mem.head _)) gR v30 (List.forall_mem_cons.2 ⟨.inr ⟨(List.Mem.head _), nl18_R⟩, (List.forall_mem_cons.2 ⟨.inl rfl, (List.forall_mem_cons.2 ⟨.inr ⟨(List.Mem.tail _ (List.Mem.tail _ (List.Mem.head _))), (Ne.symm nR_z1)⟩, (List.forall_mem_cons.2 ⟨.inr ⟨(List.Mem.tail _ (List.Mem.tail _ (List.Mem.tail _ (List.Mem.head _)))), (Ne.symm nR_y1)⟩, (List.forall_mem_cons.2 ⟨.inr ⟨(List.Mem.tail _ (List.Mem.tail _ (List.Mem.tail _ (List.Mem.tail _ (List.Mem.head _))))), (Ne.symm nR_x1)⟩, (List.forall_mem_nil _)⟩)⟩)⟩)⟩)⟩)
    have HKK := Lib.hid hK
    clear hK
    go_wp2_with fail
    have hK := HKK.out
    have gs := vobj_six (hK.blk _ (List.Mem.tail _ (List.Mem.head _)))
    simp only [v30] at gs
    obtain ⟨r0, r1, r2, r3, r4, r5⟩ := gs
    exact bodyPost_ret (v := .tuple #[.agg #[.int .i64 0, .int .i64 0, .int .i64 0, .int .i64 0, .int .i64 0, .int .i64 0], .int .i64 n]) (by simp [results, Tryz.results41, go_sem, r0, r1, r2, r3, r4, r5]) rfl ⟨rfl, hK.bel⟩
end Go.Proofs.YtmnccbhlllnlbaaGreat
