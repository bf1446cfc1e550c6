/- Proved: monoclelaw02.SpanNarrows returns true for every input: intervals within intervals give results within the former ones. Condition: the powers of ten lie as the program's text lays them (the card ties it). -/
import Derived.Test.YtjphhdfkkkdppaaDoorLift
import Derived.Test.YtjphhdfkkkdppaaDoorOpen
import Derived.Test.YtjphhdfkkkdppaaDoorWSpanNarrows
namespace Go.Proofs.YtjphhdfkkkdppaaDoor.spanNarrows
open Go.ChangeShapes Go.WideShapes Go.ChangeAt Go.RowKit Mnc

theorem wf_u8 {n : Int} (h : (Lit.int .u8 n).wf = true) : 0 ≤ n ∧ n < 256 := by
  simp only [Lit.wf, Bool.and_eq_true, decide_eq_true_eq] at h
  have h : 0 ≤ n ∧ n ≤ 255 := h
  omega
theorem wf_u32 {n : Int} (h : (Lit.int .u32 n).wf = true) : 0 ≤ n ∧ n < 4294967296 := by
  simp only [Lit.wf, Bool.and_eq_true, decide_eq_true_eq] at h
  have h : 0 ≤ n ∧ n ≤ 4294967295 := h
  omega
theorem kinds_Two : kindsOf Tryd.prog 8 40 = some [.i64, .i64, .i64, .i64, .i64, .u8, .u32, .i64, .u8, .u32] := by kernel_rfl
theorem kinds_Places : kindsOf Tryd.prog 8 50 = some [.u64, .u64] := by kernel_rfl
theorem wf_u64 {n : Int} (h : (Lit.int .u64 n).wf = true) : 0 ≤ n ∧ n < 18446744073709551616 := by
  simp only [Lit.wf, Bool.and_eq_true, decide_eq_true_eq] at h
  have h : 0 ≤ n ∧ n ≤ 18446744073709551615 := h
  omega
set_option maxRecDepth 100000 in
theorem lifted (os : Os) (started : os.Started) (H : Type) (enc : TypeId × Value → H) :
    ReturnsInHanded {} Tryd.checked os 7 .any (fun w args => (Rows.spanNarrowsSpec.pre enc Tryd.prog Tryd.f7 [] false w args ∧ laidMetH Tryd.prog laidL w) ∧ sizedMet enc Tryd.prog Tryd.f7 (OpenSpec.ofChange Rows.spanNarrowsSpec) false w args)
      (Rows.spanNarrowsSpec.post enc Tryd.prog Tryd.f7 false true false false) := by
  refine returnsInHanded_of_change_and (C := Tryd.checked) (X := fun w _ => laidMetH Tryd.prog laidL w) (fun _ _ _ hh h => h.of_heap hh) own started (by kernel_rfl) Tryd.func7
    (ChangeSpec.witness_shaped (enc := enc) (C := Tryd.checked) (os := os) (X := fun w _ => laidMetH Tryd.prog laidL w) false (World.doorLaid Tryd.prog 400 os) #[.agg #[.int .i64 0, .int .i64 0, .int .i64 0, .int .i64 0, .int .i64 0, .int .u8 0, .int .u32 0, .int .i64 0, .int .u8 0, .int .u32 0], .agg #[.int .u64 0, .int .u64 0], .agg #[.int .u64 0, .int .u64 0], .int .i64 0] 8 rfl (World.shaped_of_RefB (by kernel_rfl) (by kernel_rfl)) (by kernel_rfl) (by kernel_rfl) (by kernel_rfl) (door_met os _)) ?_
  intro W base args ds gs before hval0 hW _ _ hL _
  have hval : ∀ (j : Nat) t v, Tryd.f7.params[j]? = some t → args[j]? = some v → Value.okWide Tryd.prog W .any base t v := hval0
  have hW' := hW
  obtain ⟨p, q, hA0, hV, rfl, hfz, hnd⟩ := hW
  have hA : DataW.TrodAll enc Tryd.prog W 0 (fun _ => true) true Tryd.f7.params.toList args.toList ds p := hA0
  rw [Tryd.params7] at hA hval
  obtain ⟨v0, vs0, d0, ds0, p0, q0, hargs, rfl, rfl, h0, r0⟩ := trodAll_cons hA
  obtain ⟨v1, vs1, d1, ds1, p1, q1, rfl, rfl, rfl, h1, r1⟩ := trodAll_cons r0
  obtain ⟨v2, vs2, d2, ds2, p2, q2, rfl, rfl, rfl, h2, r2⟩ := trodAll_cons r1
  obtain ⟨v3, vs3, d3, ds3, p3, q3, rfl, rfl, rfl, h3, r3⟩ := trodAll_cons r2
  obtain ⟨rfl, rfl, rfl⟩ := trodAll_nil r3
  obtain rfl : args = #[v0, v1, v2, v3] := by cases args; simp_all
  obtain ⟨rfl, rfl⟩ := trodVars_none hV
  obtain ⟨rfl, ⟨l0, hl0, rfl, wfs0⟩, back0⟩ := open_struct kinds_Two Tryd.underlying40 (hval 0 40 v0 rfl rfl) h0
  obtain ⟨n0_0, l0_0, rfl, hl0_0⟩ := map_cons_inv hl0
  obtain ⟨n0_1, l0_1, rfl, hl0_1⟩ := map_cons_inv hl0_0
  obtain ⟨n0_2, l0_2, rfl, hl0_2⟩ := map_cons_inv hl0_1
  obtain ⟨n0_3, l0_3, rfl, hl0_3⟩ := map_cons_inv hl0_2
  obtain ⟨n0_4, l0_4, rfl, hl0_4⟩ := map_cons_inv hl0_3
  obtain ⟨n0_5, l0_5, rfl, hl0_5⟩ := map_cons_inv hl0_4
  obtain ⟨n0_6, l0_6, rfl, hl0_6⟩ := map_cons_inv hl0_5
  obtain ⟨n0_7, l0_7, rfl, hl0_7⟩ := map_cons_inv hl0_6
  obtain ⟨n0_8, l0_8, rfl, hl0_8⟩ := map_cons_inv hl0_7
  obtain ⟨n0_9, l0_9, rfl, hl0_9⟩ := map_cons_inv hl0_8
  obtain rfl := map_nil_inv hl0_9
  obtain ⟨rfl, ⟨l1, hl1, rfl, wfs1⟩, back1⟩ := open_struct kinds_Places Tryd.underlying50 (hval 1 50 v1 rfl rfl) h1
  obtain ⟨n1_0, l1_0, rfl, hl1_0⟩ := map_cons_inv hl1
  obtain ⟨n1_1, l1_1, rfl, hl1_1⟩ := map_cons_inv hl1_0
  obtain rfl := map_nil_inv hl1_1
  obtain ⟨rfl, ⟨l2, hl2, rfl, wfs2⟩, back2⟩ := open_struct kinds_Places Tryd.underlying50 (hval 2 50 v2 rfl rfl) h2
  obtain ⟨n2_0, l2_0, rfl, hl2_0⟩ := map_cons_inv hl2
  obtain ⟨n2_1, l2_1, rfl, hl2_1⟩ := map_cons_inv hl2_0
  obtain rfl := map_nil_inv hl2_1
  obtain ⟨a3, rfl, rfl, rfl, w3⟩ := open_int Tryd.underlying3 (hval 3 3 v3 rfl rfl) h3
  clear hA0 hval0
  simp only [List.append_nil] at hW'
  refine (law2_SpanNarrows ⟨(n0_0, n0_1), (n0_2, n0_3), n0_4, n0_5, n0_6, n0_7, n0_8, n0_9⟩ ⟨wf_u8 (wfs0 (.u8, n0_5) (by simp)), wf_u32 (wfs0 (.u32, n0_6) (by simp)), wf_u8 (wfs0 (.u8, n0_8) (by simp)), wf_u32 (wfs0 (.u32, n0_9) (by simp))⟩ (n1_0, n1_1) ⟨wf_u64 (wfs1 (.u64, n1_0) (by simp)), wf_u64 (wfs1 (.u64, n1_1) (by simp))⟩ (n2_0, n2_1) ⟨wf_u64 (wfs2 (.u64, n2_0) (by simp)), wf_u64 (wfs2 (.u64, n2_1) (by simp))⟩ a3 (wf_i64 w3) W (pows_of_laid hL)).mono fun e W' ⟨he, hg⟩ => ?_
  subst he
  exact ⟨_, rfl, post_below (pa := []) (pv := []) hW' (fun _ _ _ => (trodAll_cons_mk (shut_bool Tryd.underlying4 _) trodAll_mk0)) (fun sp _ => (trodAll_cons_mk (back0 _ _ _ _) (trodAll_cons_mk (back1 _ _ _ _) (trodAll_cons_mk (back2 _ _ _ _) (trodAll_cons_mk (shut_int Tryd.underlying3 w3) trodAll_mk0))))) (fun _ _ => rfl) rfl
    hg (ok_one (by kernel_rfl) rfl (okWide_bool_mk Tryd.underlying4 _))⟩

theorem over : Rows.spanNarrowsRow.holds Tryd.pinned (OpenSpec.ofChange Rows.spanNarrowsSpec) :=
  OpenClaim.holds_of_wide 7 Tryd.f7 rfl rfl rfl rfl rfl rfl rfl ⟨rfl, rfl, rfl, rfl, rfl⟩ rfl rfl rfl rfl rfl (by kernel_rfl) Tryd.func7 (by kernel_rfl)
    (of_decide_eq_true (by kernel_rfl)) (by unfold Func.isWrapper; first | (rw [if_pos (by decide +kernel)]; kernel_rfl) | (rw [if_neg (by decide +kernel)]; exact ⟨rfl, rfl⟩))
    (fun os started H enc _ => lifted os started H enc)

theorem proved : Rows.SpanNarrowsCardSaid :=
  Claim7.holds_tied_plain_at .later [] [.data] true _ false
    over (fun _ h => by cases h) (by kernel_rfl) (fun _ h => by cases h) spanNarrows_row_tie rfl ⟨rfl, rfl⟩ (by kernel_rfl) rfl
    (fun f fn hf hfn => by
      obtain rfl : f = 7 := Option.some.inj ((show Tryd.prog.funcNamed "monocle/monoclelaw02.SpanNarrows" = some 7 by kernel_rfl).symm.trans hf) |>.symm
      obtain rfl : fn = Tryd.f7 := (Option.some.inj (Tryd.func7.symm.trans hfn)).symm
      exact ⟨by kernel_rfl, fun j t ht => by
        rw [Tryd.params7] at ht
        rcases j with _ | _ | _ | _ | j
        · obtain rfl : t = _ := by simpa using ht.symm
          kernel_rfl
        · obtain rfl : t = _ := by simpa using ht.symm
          kernel_rfl
        · obtain rfl : t = _ := by simpa using ht.symm
          kernel_rfl
        · obtain rfl : t = _ := by simpa using ht.symm
          kernel_rfl
        · simp at ht⟩)
    (by kernel_rfl)
end Go.Proofs.YtjphhdfkkkdppaaDoor.spanNarrows
