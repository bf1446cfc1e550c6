/- The walk of monoclelaw08.PolySlopes. Printed by wip/genPL.py. -/
import Derived.Test.YtgfofilkpaelnaaLawPL
namespace Go.Proofs.Ytgfofilkpaelnaa.polySlopes
open Go.RowKit Go.Shelf Mnc

set_option maxRecDepth 100000 in
set_option maxHeartbeats 8000000 in
theorem walk (a : List (Int × Int)) (n : Nat) (s : Int × Int) (ds : List Dr) (x : Dr) (a0 ad : Option Addr) (c0 cd : Nat) (w : World) (ha : SpSl w a0 c0 a) (hn : a.length = min n 10) (hnc : n ≤ c0) (hd : DrSl w ad cd ds) (hx : x.wf) :
    Calls Try.prog 4 #[.slice a0 n c0, .agg #[.int .i64 s.1, .int .i64 s.2], .slice ad ds.length cd, .agg #[.int .i64 x.1, .int .u8 x.2.1, .int .u32 x.2.2]] w fun e w' => e = .returned (.bool true) ∧ Below w.heap.size w w' := by
  have hb0 := below_alloc (below_alloc (Below.refl w.heap.size w) (.cells #[.int .i64 s.1, .int .i64 s.2] 24)) (.cells #[.int .i64 x.1, .int .u8 x.2.1, .int .u32 x.2.2] 28)
  have hbs : ((w.alloc (.cells #[.int .i64 s.1, .int .i64 s.2] 24)).alloc (.cells #[.int .i64 x.1, .int .u8 x.2.1, .int .u32 x.2.2] 28)).heap[w.heap.size]? = some (.cells #[.int .i64 s.1, .int .i64 s.2] 24 (0, 0)) := heap_up _ (heap_at _ rfl)
  have hbx : ((w.alloc (.cells #[.int .i64 s.1, .int .i64 s.2] 24)).alloc (.cells #[.int .i64 x.1, .int .u8 x.2.1, .int .u32 x.2.2] 28)).heap[w.heap.size + 1]? = some (.cells #[.int .i64 x.1, .int .u8 x.2.1, .int .u32 x.2.2] 28 (0, 0)) := heap_at _ (by simp)
  have HB0 := Lib.hid hb0
  have HBS := Lib.hid hbs
  have HBX := Lib.hid hbx
  have HA := Lib.hid ha
  have HD := Lib.hid hd
  have HX := Lib.hid hx
  have HN := Lib.hid hn
  have HNC := Lib.hid (law8_few a0 n c0 hnc ha.cmax)
  clear hb0 hbs hbx ha hd hx hn hnc
  go_enter Try.func4, Try.ntmps4
  go_wp2_with fail
  generalize ((w.alloc (.cells #[.int .i64 s.1, .int .i64 s.2] 24)).alloc (.cells #[.int .i64 x.1, .int .u8 x.2.1, .int .u32 x.2.2] 28)) = W0 at *
  refine (law8_works _).mono ?_; rintro e w1 ⟨rfl, hbel⟩
  have HB1 := Lib.hid (below_step HB0.out hbel)
  have HBS1 := Lib.hid ((hbel.block _ (lt_of_block HBS.out)).trans HBS.out)
  have HBX1 := Lib.hid ((hbel.block _ (lt_of_block HBX.out)).trans HBX.out)
  clear hbel HB0 HBS HBX
  go_wp2_with fail
  refine (HNC.out _).mono ?_; rintro e w2 ⟨rfl, rfl⟩
  rw [← HN.out]
  go_wp2_with fail
  refine (ref8_Coefs ds true ad cd _ (HD.out.on HB1.out)).mono ?_; rintro e w2 ⟨a1, c1, rfl, hs1, hbel⟩
  have HB2 := Lib.hid (below_step HB1.out hbel)
  have HBS2 := Lib.hid ((hbel.block _ (lt_of_block HBS1.out)).trans HBS1.out)
  have HBX2 := Lib.hid ((hbel.block _ (lt_of_block HBX1.out)).trans HBX1.out)
  have HS1 := Lib.hid hs1
  clear hs1 hbel HB1 HBS1 HBX1
  go_wp2_with fail
  refine (ref8_Coefs ds false ad cd _ (HD.out.on HB2.out)).mono ?_; rintro e w3 ⟨a2, c2, rfl, hs2, hbel⟩
  have HL : Hid (LwB w w3 s x a0 a1 a2 c0 c1 c2 a (coefs true ds) (coefs false ds)) := Lib.hid ⟨below_step HB2.out hbel, (hbel.block _ (lt_of_block HBS2.out)).trans HBS2.out, (hbel.block _ (lt_of_block HBX2.out)).trans HBX2.out, HA.out.on (below_step HB2.out hbel), HS1.out.on hbel, hs2⟩
  clear hs2 hbel HB2 HBS2 HBX2 HS1 HD HA HNC HN
  go_wp2_with fail
  generalize coefs true ds = l1 at *
  generalize coefs false ds = l2 at *
  go_loopw [26] (fun i wr => ∃ k : Nat, k ≤ 3 ∧ i = .int .i64 k ∧ Hid (LwB w wr s x a0 a1 a2 c0 c1 c2 a l1 l2)) (fun i _ => 3 - (intOf i).toNat)
  case atStart => exact ⟨0, by omega, rfl, HL⟩
  case round =>
    clear HL
    obtain ⟨k, hk, rfl, HL⟩ := hrel
    rcases (by omega : k = 0 ∨ k = 1 ∨ k = 2 ∨ k = 3) with rfl | rfl | rfl | rfl
    · have hi := pickL_0 (.slice a0 a.length c0) (.slice a1 l1.length c1) (.slice a2 l2.length c2)
      have b0 := cell_two0 HL.out.bs
      have b1 := cell_two1 HL.out.bs
      obtain ⟨x0, x1, x2⟩ := cell_three HL.out.bx
      have ls := lt_of_block HL.out.bs
      have lx := lt_of_block HL.out.bx
      go_wp2_with fail
      go_region_held3 (fun w' => w'.cell? ⟨w.heap.size, 0, none⟩ = some (.int .i64 s.1) ∧ w'.cell? ⟨w.heap.size, 1, none⟩ = some (.int .i64 s.2) ∧ w'.cell? ⟨w.heap.size + 1, 0, none⟩ = some (.int .i64 x.1) ∧ w'.cell? ⟨w.heap.size + 1, 1, none⟩ = some (.int .u8 x.2.1) ∧ w'.cell? ⟨w.heap.size + 1, 2, none⟩ = some (.int .u32 x.2.2) ∧ Below wr.heap.size wr w')
        (first
          | exact keep5 ls lx b0 b1 x0 x1 x2 (Below.refl _ _).drew
          | (go_split_ands; exact keep5 ls lx b0 b1 x0 x1 x2 (by assumption))
          | (go_split_ands; exact keep5 ls lx b0 b1 x0 x1 x2 (below_step (by assumption) hbel)))
        (first | (go_at_call 19; refine (draft_Small x.1 x.2.1 x.2.2 HX.out.1 HX.out.2 _).mono ?_; rintro e w4 ⟨rfl, hbel⟩))
      have hbw : Below wr.heap.size wr w4 := by go_split_ands; assumption
      have HL := Lib.hid (HL.out.on hbw)
      clear hbw b0 b1 x0 x1 x2 ls lx hi
      go_wp2_with fail
      go_loopw [33] (fun i wr => ∃ k : Nat, k ≤ 2 ∧ i = .int .i64 k ∧ Hid (LwB w wr s x a0 a1 a2 c0 c1 c2 a l1 l2)) (fun i _ => 2 - (intOf i).toNat)
      case atStart => exact ⟨0, by omega, rfl, HL⟩
      case round =>
        clear HL
        obtain ⟨j, hj, rfl, HL⟩ := hrel
        rcases (by omega : j = 0 ∨ j = 1 ∨ j = 2) with rfl | rfl | rfl
        · have hi := pickS_0 (.int .i64 s.1) (.int .i64 s.2) (.int .i64 (dSmall x.1 x.2.1 x.2.2).1) (.int .i64 (dSmall x.1 x.2.1 x.2.2).2)
          have HE := Lib.hid (fun W hS => poly_Slope a s a0 c0 W hS)
          have HR := Lib.hid (fun W hS => ref8_Slope a s a0 c0 W hS)
          obtain ⟨r, hr⟩ : ∃ r, r = pSlope a s := ⟨_, rfl⟩
          rw [← hr] at HE HR
          clear hr
          have HL := Lib.hid (HL.out.on (below_alloc (Below.refl _ _) (.cells #[.int .i64 s.1, .int .i64 s.2] 24)))
          have HT := Lib.hid (fun (W : World) => heap_at (w := W) (.cells #[.int .i64 s.1, .int .i64 s.2] 24) rfl)
          go_wp2_with fail
          refine (HE.out _ HL.out.s0).mono ?_; rintro e w5 ⟨rfl, hbel⟩
          have HT := Lib.hid (heap_up (.cells #[.int .i64 r.1.1, .int .i64 r.1.2] 24) ((hbel.block _ (lt_of_block (HT.out _))).trans (HT.out _)))
          have HR5 := Lib.hid (heap_at (w := w5) (.cells #[.int .i64 r.1.1, .int .i64 r.1.2] 24) rfl)
          have HL := Lib.hid ((HL.out.on hbel).on (below_alloc (Below.refl _ _) (.cells #[.int .i64 r.1.1, .int .i64 r.1.2] 24)))
          have t0 := cell_two0 HT.out
          have t1 := cell_two1 HT.out
          clear hbel hi
          go_wp2_with fail
          refine (HR.out _ HL.out.s0).mono ?_; rintro e w6 ⟨rfl, hbel⟩
          have HR6 := Lib.hid (heap_up (.cells #[.int .i64 r.1.1, .int .i64 r.1.2] 24) ((hbel.block _ (lt_of_block HR5.out)).trans HR5.out))
          have HL := Lib.hid ((HL.out.on hbel).on (below_alloc (Below.refl _ _) (.cells #[.int .i64 r.1.1, .int .i64 r.1.2] 24)))
          clear hbel t0 t1
          have r0 := cell_two0 HR6.out
          have r1 := cell_two1 HR6.out
          go_wp2_with fail
          go_roundw
          case rel => exact ⟨1, by omega, rfl, HL⟩
          case measure => simp [intOf]
        · have hi := pickS_1 (.int .i64 s.1) (.int .i64 s.2) (.int .i64 (dSmall x.1 x.2.1 x.2.2).1) (.int .i64 (dSmall x.1 x.2.1 x.2.2).2)
          have HE := Lib.hid (fun W hS => poly_Slope a (dSmall x.1 x.2.1 x.2.2) a0 c0 W hS)
          have HR := Lib.hid (fun W hS => ref8_Slope a (dSmall x.1 x.2.1 x.2.2) a0 c0 W hS)
          obtain ⟨r, hr⟩ : ∃ r, r = pSlope a (dSmall x.1 x.2.1 x.2.2) := ⟨_, rfl⟩
          rw [← hr] at HE HR
          clear hr
          have HL := Lib.hid (HL.out.on (below_alloc (Below.refl _ _) (.cells #[.int .i64 (dSmall x.1 x.2.1 x.2.2).1, .int .i64 (dSmall x.1 x.2.1 x.2.2).2] 24)))
          have HT := Lib.hid (fun (W : World) => heap_at (w := W) (.cells #[.int .i64 (dSmall x.1 x.2.1 x.2.2).1, .int .i64 (dSmall x.1 x.2.1 x.2.2).2] 24) rfl)
          go_wp2_with fail
          refine (HE.out _ HL.out.s0).mono ?_; rintro e w5 ⟨rfl, hbel⟩
          have HT := Lib.hid (heap_up (.cells #[.int .i64 r.1.1, .int .i64 r.1.2] 24) ((hbel.block _ (lt_of_block (HT.out _))).trans (HT.out _)))
          have HR5 := Lib.hid (heap_at (w := w5) (.cells #[.int .i64 r.1.1, .int .i64 r.1.2] 24) rfl)
          have HL := Lib.hid ((HL.out.on hbel).on (below_alloc (Below.refl _ _) (.cells #[.int .i64 r.1.1, .int .i64 r.1.2] 24)))
          have t0 := cell_two0 HT.out
          have t1 := cell_two1 HT.out
          clear hbel hi
          go_wp2_with fail
          refine (HR.out _ HL.out.s0).mono ?_; rintro e w6 ⟨rfl, hbel⟩
          have HR6 := Lib.hid (heap_up (.cells #[.int .i64 r.1.1, .int .i64 r.1.2] 24) ((hbel.block _ (lt_of_block HR5.out)).trans HR5.out))
          have HL := Lib.hid ((HL.out.on hbel).on (below_alloc (Below.refl _ _) (.cells #[.int .i64 r.1.1, .int .i64 r.1.2] 24)))
          clear hbel t0 t1
          have r0 := cell_two0 HR6.out
          have r1 := cell_two1 HR6.out
          go_wp2_with fail
          go_roundw
          case rel => exact ⟨2, by omega, rfl, HL⟩
          case measure => simp [intOf]
        · go_wp2_with fail
          go_roundw
          case rel => exact ⟨1, by omega, rfl, HL⟩
          case measure => simp [intOf]
    · have hi := pickL_1 (.slice a0 a.length c0) (.slice a1 l1.length c1) (.slice a2 l2.length c2)
      have b0 := cell_two0 HL.out.bs
      have b1 := cell_two1 HL.out.bs
      obtain ⟨x0, x1, x2⟩ := cell_three HL.out.bx
      have ls := lt_of_block HL.out.bs
      have lx := lt_of_block HL.out.bx
      go_wp2_with fail
      go_region_held3 (fun w' => w'.cell? ⟨w.heap.size, 0, none⟩ = some (.int .i64 s.1) ∧ w'.cell? ⟨w.heap.size, 1, none⟩ = some (.int .i64 s.2) ∧ w'.cell? ⟨w.heap.size + 1, 0, none⟩ = some (.int .i64 x.1) ∧ w'.cell? ⟨w.heap.size + 1, 1, none⟩ = some (.int .u8 x.2.1) ∧ w'.cell? ⟨w.heap.size + 1, 2, none⟩ = some (.int .u32 x.2.2) ∧ Below wr.heap.size wr w')
        (first
          | exact keep5 ls lx b0 b1 x0 x1 x2 (Below.refl _ _).drew
          | (go_split_ands; exact keep5 ls lx b0 b1 x0 x1 x2 (by assumption))
          | (go_split_ands; exact keep5 ls lx b0 b1 x0 x1 x2 (below_step (by assumption) hbel)))
        (first | (go_at_call 19; refine (draft_Small x.1 x.2.1 x.2.2 HX.out.1 HX.out.2 _).mono ?_; rintro e w4 ⟨rfl, hbel⟩))
      have hbw : Below wr.heap.size wr w4 := by go_split_ands; assumption
      have HL := Lib.hid (HL.out.on hbw)
      clear hbw b0 b1 x0 x1 x2 ls lx hi
      go_wp2_with fail
      go_loopw [33] (fun i wr => ∃ k : Nat, k ≤ 2 ∧ i = .int .i64 k ∧ Hid (LwB w wr s x a0 a1 a2 c0 c1 c2 a l1 l2)) (fun i _ => 2 - (intOf i).toNat)
      case atStart => exact ⟨0, by omega, rfl, HL⟩
      case round =>
        clear HL
        obtain ⟨j, hj, rfl, HL⟩ := hrel
        rcases (by omega : j = 0 ∨ j = 1 ∨ j = 2) with rfl | rfl | rfl
        · have hi := pickS_0 (.int .i64 s.1) (.int .i64 s.2) (.int .i64 (dSmall x.1 x.2.1 x.2.2).1) (.int .i64 (dSmall x.1 x.2.1 x.2.2).2)
          have HE := Lib.hid (fun W hS => poly_Slope l1 s a1 c1 W hS)
          have HR := Lib.hid (fun W hS => ref8_Slope l1 s a1 c1 W hS)
          obtain ⟨r, hr⟩ : ∃ r, r = pSlope l1 s := ⟨_, rfl⟩
          rw [← hr] at HE HR
          clear hr
          have HL := Lib.hid (HL.out.on (below_alloc (Below.refl _ _) (.cells #[.int .i64 s.1, .int .i64 s.2] 24)))
          have HT := Lib.hid (fun (W : World) => heap_at (w := W) (.cells #[.int .i64 s.1, .int .i64 s.2] 24) rfl)
          go_wp2_with fail
          refine (HE.out _ HL.out.s1).mono ?_; rintro e w5 ⟨rfl, hbel⟩
          have HT := Lib.hid (heap_up (.cells #[.int .i64 r.1.1, .int .i64 r.1.2] 24) ((hbel.block _ (lt_of_block (HT.out _))).trans (HT.out _)))
          have HR5 := Lib.hid (heap_at (w := w5) (.cells #[.int .i64 r.1.1, .int .i64 r.1.2] 24) rfl)
          have HL := Lib.hid ((HL.out.on hbel).on (below_alloc (Below.refl _ _) (.cells #[.int .i64 r.1.1, .int .i64 r.1.2] 24)))
          have t0 := cell_two0 HT.out
          have t1 := cell_two1 HT.out
          clear hbel hi
          go_wp2_with fail
          refine (HR.out _ HL.out.s1).mono ?_; rintro e w6 ⟨rfl, hbel⟩
          have HR6 := Lib.hid (heap_up (.cells #[.int .i64 r.1.1, .int .i64 r.1.2] 24) ((hbel.block _ (lt_of_block HR5.out)).trans HR5.out))
          have HL := Lib.hid ((HL.out.on hbel).on (below_alloc (Below.refl _ _) (.cells #[.int .i64 r.1.1, .int .i64 r.1.2] 24)))
          clear hbel t0 t1
          have r0 := cell_two0 HR6.out
          have r1 := cell_two1 HR6.out
          go_wp2_with fail
          go_roundw
          case rel => exact ⟨1, by omega, rfl, HL⟩
          case measure => simp [intOf]
        · have hi := pickS_1 (.int .i64 s.1) (.int .i64 s.2) (.int .i64 (dSmall x.1 x.2.1 x.2.2).1) (.int .i64 (dSmall x.1 x.2.1 x.2.2).2)
          have HE := Lib.hid (fun W hS => poly_Slope l1 (dSmall x.1 x.2.1 x.2.2) a1 c1 W hS)
          have HR := Lib.hid (fun W hS => ref8_Slope l1 (dSmall x.1 x.2.1 x.2.2) a1 c1 W hS)
          obtain ⟨r, hr⟩ : ∃ r, r = pSlope l1 (dSmall x.1 x.2.1 x.2.2) := ⟨_, rfl⟩
          rw [← hr] at HE HR
          clear hr
          have HL := Lib.hid (HL.out.on (below_alloc (Below.refl _ _) (.cells #[.int .i64 (dSmall x.1 x.2.1 x.2.2).1, .int .i64 (dSmall x.1 x.2.1 x.2.2).2] 24)))
          have HT := Lib.hid (fun (W : World) => heap_at (w := W) (.cells #[.int .i64 (dSmall x.1 x.2.1 x.2.2).1, .int .i64 (dSmall x.1 x.2.1 x.2.2).2] 24) rfl)
          go_wp2_with fail
          refine (HE.out _ HL.out.s1).mono ?_; rintro e w5 ⟨rfl, hbel⟩
          have HT := Lib.hid (heap_up (.cells #[.int .i64 r.1.1, .int .i64 r.1.2] 24) ((hbel.block _ (lt_of_block (HT.out _))).trans (HT.out _)))
          have HR5 := Lib.hid (heap_at (w := w5) (.cells #[.int .i64 r.1.1, .int .i64 r.1.2] 24) rfl)
          have HL := Lib.hid ((HL.out.on hbel).on (below_alloc (Below.refl _ _) (.cells #[.int .i64 r.1.1, .int .i64 r.1.2] 24)))
          have t0 := cell_two0 HT.out
          have t1 := cell_two1 HT.out
          clear hbel hi
          go_wp2_with fail
          refine (HR.out _ HL.out.s1).mono ?_; rintro e w6 ⟨rfl, hbel⟩
          have HR6 := Lib.hid (heap_up (.cells #[.int .i64 r.1.1, .int .i64 r.1.2] 24) ((hbel.block _ (lt_of_block HR5.out)).trans HR5.out))
          have HL := Lib.hid ((HL.out.on hbel).on (below_alloc (Below.refl _ _) (.cells #[.int .i64 r.1.1, .int .i64 r.1.2] 24)))
          clear hbel t0 t1
          have r0 := cell_two0 HR6.out
          have r1 := cell_two1 HR6.out
          go_wp2_with fail
          go_roundw
          case rel => exact ⟨2, by omega, rfl, HL⟩
          case measure => simp [intOf]
        · go_wp2_with fail
          go_roundw
          case rel => exact ⟨2, by omega, rfl, HL⟩
          case measure => simp [intOf]
    · have hi := pickL_2 (.slice a0 a.length c0) (.slice a1 l1.length c1) (.slice a2 l2.length c2)
      have b0 := cell_two0 HL.out.bs
      have b1 := cell_two1 HL.out.bs
      obtain ⟨x0, x1, x2⟩ := cell_three HL.out.bx
      have ls := lt_of_block HL.out.bs
      have lx := lt_of_block HL.out.bx
      go_wp2_with fail
      go_region_held3 (fun w' => w'.cell? ⟨w.heap.size, 0, none⟩ = some (.int .i64 s.1) ∧ w'.cell? ⟨w.heap.size, 1, none⟩ = some (.int .i64 s.2) ∧ w'.cell? ⟨w.heap.size + 1, 0, none⟩ = some (.int .i64 x.1) ∧ w'.cell? ⟨w.heap.size + 1, 1, none⟩ = some (.int .u8 x.2.1) ∧ w'.cell? ⟨w.heap.size + 1, 2, none⟩ = some (.int .u32 x.2.2) ∧ Below wr.heap.size wr w')
        (first
          | exact keep5 ls lx b0 b1 x0 x1 x2 (Below.refl _ _).drew
          | (go_split_ands; exact keep5 ls lx b0 b1 x0 x1 x2 (by assumption))
          | (go_split_ands; exact keep5 ls lx b0 b1 x0 x1 x2 (below_step (by assumption) hbel)))
        (first | (go_at_call 19; refine (draft_Small x.1 x.2.1 x.2.2 HX.out.1 HX.out.2 _).mono ?_; rintro e w4 ⟨rfl, hbel⟩))
      have hbw : Below wr.heap.size wr w4 := by go_split_ands; assumption
      have HL := Lib.hid (HL.out.on hbw)
      clear hbw b0 b1 x0 x1 x2 ls lx hi
      go_wp2_with fail
      go_loopw [33] (fun i wr => ∃ k : Nat, k ≤ 2 ∧ i = .int .i64 k ∧ Hid (LwB w wr s x a0 a1 a2 c0 c1 c2 a l1 l2)) (fun i _ => 2 - (intOf i).toNat)
      case atStart => exact ⟨0, by omega, rfl, HL⟩
      case round =>
        clear HL
        obtain ⟨j, hj, rfl, HL⟩ := hrel
        rcases (by omega : j = 0 ∨ j = 1 ∨ j = 2) with rfl | rfl | rfl
        · have hi := pickS_0 (.int .i64 s.1) (.int .i64 s.2) (.int .i64 (dSmall x.1 x.2.1 x.2.2).1) (.int .i64 (dSmall x.1 x.2.1 x.2.2).2)
          have HE := Lib.hid (fun W hS => poly_Slope l2 s a2 c2 W hS)
          have HR := Lib.hid (fun W hS => ref8_Slope l2 s a2 c2 W hS)
          obtain ⟨r, hr⟩ : ∃ r, r = pSlope l2 s := ⟨_, rfl⟩
          rw [← hr] at HE HR
          clear hr
          have HL := Lib.hid (HL.out.on (below_alloc (Below.refl _ _) (.cells #[.int .i64 s.1, .int .i64 s.2] 24)))
          have HT := Lib.hid (fun (W : World) => heap_at (w := W) (.cells #[.int .i64 s.1, .int .i64 s.2] 24) rfl)
          go_wp2_with fail
          refine (HE.out _ HL.out.s2).mono ?_; rintro e w5 ⟨rfl, hbel⟩
          have HT := Lib.hid (heap_up (.cells #[.int .i64 r.1.1, .int .i64 r.1.2] 24) ((hbel.block _ (lt_of_block (HT.out _))).trans (HT.out _)))
          have HR5 := Lib.hid (heap_at (w := w5) (.cells #[.int .i64 r.1.1, .int .i64 r.1.2] 24) rfl)
          have HL := Lib.hid ((HL.out.on hbel).on (below_alloc (Below.refl _ _) (.cells #[.int .i64 r.1.1, .int .i64 r.1.2] 24)))
          have t0 := cell_two0 HT.out
          have t1 := cell_two1 HT.out
          clear hbel hi
          go_wp2_with fail
          refine (HR.out _ HL.out.s2).mono ?_; rintro e w6 ⟨rfl, hbel⟩
          have HR6 := Lib.hid (heap_up (.cells #[.int .i64 r.1.1, .int .i64 r.1.2] 24) ((hbel.block _ (lt_of_block HR5.out)).trans HR5.out))
          have HL := Lib.hid ((HL.out.on hbel).on (below_alloc (Below.refl _ _) (.cells #[.int .i64 r.1.1, .int .i64 r.1.2] 24)))
          clear hbel t0 t1
          have r0 := cell_two0 HR6.out
          have r1 := cell_two1 HR6.out
          go_wp2_with fail
          go_roundw
          case rel => exact ⟨1, by omega, rfl, HL⟩
          case measure => simp [intOf]
        · have hi := pickS_1 (.int .i64 s.1) (.int .i64 s.2) (.int .i64 (dSmall x.1 x.2.1 x.2.2).1) (.int .i64 (dSmall x.1 x.2.1 x.2.2).2)
          have HE := Lib.hid (fun W hS => poly_Slope l2 (dSmall x.1 x.2.1 x.2.2) a2 c2 W hS)
          have HR := Lib.hid (fun W hS => ref8_Slope l2 (dSmall x.1 x.2.1 x.2.2) a2 c2 W hS)
          obtain ⟨r, hr⟩ : ∃ r, r = pSlope l2 (dSmall x.1 x.2.1 x.2.2) := ⟨_, rfl⟩
          rw [← hr] at HE HR
          clear hr
          have HL := Lib.hid (HL.out.on (below_alloc (Below.refl _ _) (.cells #[.int .i64 (dSmall x.1 x.2.1 x.2.2).1, .int .i64 (dSmall x.1 x.2.1 x.2.2).2] 24)))
          have HT := Lib.hid (fun (W : World) => heap_at (w := W) (.cells #[.int .i64 (dSmall x.1 x.2.1 x.2.2).1, .int .i64 (dSmall x.1 x.2.1 x.2.2).2] 24) rfl)
          go_wp2_with fail
          refine (HE.out _ HL.out.s2).mono ?_; rintro e w5 ⟨rfl, hbel⟩
          have HT := Lib.hid (heap_up (.cells #[.int .i64 r.1.1, .int .i64 r.1.2] 24) ((hbel.block _ (lt_of_block (HT.out _))).trans (HT.out _)))
          have HR5 := Lib.hid (heap_at (w := w5) (.cells #[.int .i64 r.1.1, .int .i64 r.1.2] 24) rfl)
          have HL := Lib.hid ((HL.out.on hbel).on (below_alloc (Below.refl _ _) (.cells #[.int .i64 r.1.1, .int .i64 r.1.2] 24)))
          have t0 := cell_two0 HT.out
          have t1 := cell_two1 HT.out
          clear hbel hi
          go_wp2_with fail
          refine (HR.out _ HL.out.s2).mono ?_; rintro e w6 ⟨rfl, hbel⟩
          have HR6 := Lib.hid (heap_up (.cells #[.int .i64 r.1.1, .int .i64 r.1.2] 24) ((hbel.block _ (lt_of_block HR5.out)).trans HR5.out))
          have HL := Lib.hid ((HL.out.on hbel).on (below_alloc (Below.refl _ _) (.cells #[.int .i64 r.1.1, .int .i64 r.1.2] 24)))
          clear hbel t0 t1
          have r0 := cell_two0 HR6.out
          have r1 := cell_two1 HR6.out
          go_wp2_with fail
          go_roundw
          case rel => exact ⟨2, by omega, rfl, HL⟩
          case measure => simp [intOf]
        · go_wp2_with fail
          go_roundw
          case rel => exact ⟨3, by omega, rfl, HL⟩
          case measure => simp [intOf]
    · go_wp2_with fail
      go_ret
      exact ⟨rfl, HL.out.bel⟩
end Go.Proofs.Ytgfofilkpaelnaa.polySlopes
