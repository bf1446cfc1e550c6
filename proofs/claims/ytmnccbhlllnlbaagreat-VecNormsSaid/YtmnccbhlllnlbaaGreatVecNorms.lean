/- Proved: monoclelaw06.VecNorms returns true for every input: Norm and Unit agree with the reference. -/
import Derived.Test.YtmnccbhlllnlbaaGreatLiftV
import Derived.Test.YtmnccbhlllnlbaaGreatWVecNorms
namespace Go.Proofs.YtmnccbhlllnlbaaGreat.vecNorms
open Go.ChangeShapes Go.WideShapes Go.ChangeAt Go.RowKit Mnc

theorem okParams : (Tryz.f5.params.toList.all fun t => Tryz.prog.readableRec t && decide (t < Tryz.prog.types.size)) = true := by kernel_rfl

set_option maxRecDepth 100000 in
theorem lifted (os : Os) (started : os.Started) (H : Type) (enc : TypeId × Value → H) :
    ReturnsInHanded {} Tryz.checked os 5 .any (Rows.vecNormsSpec.pre6 enc Tryz.prog Tryz.f5 Rows.vecNormsRow.domain false) (Rows.vecNormsSpec.post enc Tryz.prog Tryz.f5 false true false false) := by
  refine returnsInHanded_of_change (C := Tryz.checked) own started (by kernel_rfl) Tryz.func5
    (ChangeSpec.witness6 (enc := enc) (C := Tryz.checked) false ⟨#[], #[.agg #[.int .i64 0, .int .i64 0, .int .i64 0, .int .i64 0, .int .i64 0, .int .i64 0, .int .i64 0, .int .i64 0, .int .i64 0, .int .i64 0, .int .i64 0, .int .i64 0, .int .i64 0, .int .u8 0, .int .u32 0, .int .i64 0, .int .u8 0, .int .u32 0, .int .i64 0, .int .u8 0, .int .u32 0, .int .i64 0, .int .u8 0, .int .u32 0, .int .i64 0, .int .u8 0, .int .u32 0, .int .i64 0, .int .u8 0, .int .u32 0]], []⟩ 8 (by kernel_rfl) (by kernel_rfl) (by kernel_rfl) (by kernel_rfl)) ?_
  intro W base args ds gs before hval0 hW hcnd _
  have hval : ∀ (j : Nat) t v, Tryz.f5.params[j]? = some t → args[j]? = some v → Value.okWide Tryz.prog W .any base t v := hval0
  have hW' := hW
  obtain ⟨p, q, hA0, hV, rfl, hfz, hnd⟩ := hW
  have hA : DataW.TrodAll enc Tryz.prog W 0 (fun _ => true) true Tryz.f5.params.toList args.toList ds p := hA0
  have hAk := hA
  have hlt : ∀ x ∈ p, x.block < W.heap.size := fun x hx => hW'.lt x (by simp [hx])
  rw [Tryz.params5] at hA hval
  obtain ⟨v0, vs0, d0, ds0, p0, q0, hargs, rfl, rfl, h0, r0⟩ := trodAll_cons hA
  obtain ⟨rfl, rfl, rfl⟩ := trodAll_nil r0
  obtain rfl : args = #[v0] := by cases args; simp_all
  obtain ⟨rfl, rfl⟩ := trodVars_none hV
  obtain ⟨rfl, ⟨l0, hl0, rfl, wfs0⟩, back0⟩ := open_struct kinds_Two Tryz.underlying32 (hval 0 32 v0 rfl rfl) h0
  obtain ⟨n0_0, l0_0, rfl, hl0_0⟩ := map_cons_inv hl0
  obtain ⟨n0_1, l0_1, rfl, hl0_1⟩ := map_cons_inv hl0_0
  obtain ⟨n0_2, l0_2, rfl, hl0_2⟩ := map_cons_inv hl0_1
  obtain ⟨n0_3, l0_3, rfl, hl0_3⟩ := map_cons_inv hl0_2
  obtain ⟨n0_4, l0_4, rfl, hl0_4⟩ := map_cons_inv hl0_3
  obtain ⟨n0_5, l0_5, rfl, hl0_5⟩ := map_cons_inv hl0_4
  obtain ⟨n0_6, l0_6, rfl, hl0_6⟩ := map_cons_inv hl0_5
  obtain ⟨n0_7, l0_7, rfl, hl0_7⟩ := map_cons_inv hl0_6
  obtain ⟨n0_8, l0_8, rfl, hl0_8⟩ := map_cons_inv hl0_7
  obtain ⟨n0_9, l0_9, rfl, hl0_9⟩ := map_cons_inv hl0_8
  obtain ⟨n0_10, l0_10, rfl, hl0_10⟩ := map_cons_inv hl0_9
  obtain ⟨n0_11, l0_11, rfl, hl0_11⟩ := map_cons_inv hl0_10
  obtain ⟨n0_12, l0_12, rfl, hl0_12⟩ := map_cons_inv hl0_11
  obtain ⟨n0_13, l0_13, rfl, hl0_13⟩ := map_cons_inv hl0_12
  obtain ⟨n0_14, l0_14, rfl, hl0_14⟩ := map_cons_inv hl0_13
  obtain ⟨n0_15, l0_15, rfl, hl0_15⟩ := map_cons_inv hl0_14
  obtain ⟨n0_16, l0_16, rfl, hl0_16⟩ := map_cons_inv hl0_15
  obtain ⟨n0_17, l0_17, rfl, hl0_17⟩ := map_cons_inv hl0_16
  obtain ⟨n0_18, l0_18, rfl, hl0_18⟩ := map_cons_inv hl0_17
  obtain ⟨n0_19, l0_19, rfl, hl0_19⟩ := map_cons_inv hl0_18
  obtain ⟨n0_20, l0_20, rfl, hl0_20⟩ := map_cons_inv hl0_19
  obtain ⟨n0_21, l0_21, rfl, hl0_21⟩ := map_cons_inv hl0_20
  obtain ⟨n0_22, l0_22, rfl, hl0_22⟩ := map_cons_inv hl0_21
  obtain ⟨n0_23, l0_23, rfl, hl0_23⟩ := map_cons_inv hl0_22
  obtain ⟨n0_24, l0_24, rfl, hl0_24⟩ := map_cons_inv hl0_23
  obtain ⟨n0_25, l0_25, rfl, hl0_25⟩ := map_cons_inv hl0_24
  obtain ⟨n0_26, l0_26, rfl, hl0_26⟩ := map_cons_inv hl0_25
  obtain ⟨n0_27, l0_27, rfl, hl0_27⟩ := map_cons_inv hl0_26
  obtain ⟨n0_28, l0_28, rfl, hl0_28⟩ := map_cons_inv hl0_27
  obtain ⟨n0_29, l0_29, rfl, hl0_29⟩ := map_cons_inv hl0_28
  obtain rfl := map_nil_inv hl0_29
  have wf0_0 := wf_i64 (wfs0 (.i64, n0_0) (by simp))
  have wf0_1 := wf_i64 (wfs0 (.i64, n0_1) (by simp))
  have wf0_2 := wf_i64 (wfs0 (.i64, n0_2) (by simp))
  have wf0_3 := wf_i64 (wfs0 (.i64, n0_3) (by simp))
  have wf0_4 := wf_i64 (wfs0 (.i64, n0_4) (by simp))
  have wf0_5 := wf_i64 (wfs0 (.i64, n0_5) (by simp))
  have wf0_6 := wf_i64 (wfs0 (.i64, n0_6) (by simp))
  have wf0_7 := wf_i64 (wfs0 (.i64, n0_7) (by simp))
  have wf0_8 := wf_i64 (wfs0 (.i64, n0_8) (by simp))
  have wf0_9 := wf_i64 (wfs0 (.i64, n0_9) (by simp))
  have wf0_10 := wf_i64 (wfs0 (.i64, n0_10) (by simp))
  have wf0_11 := wf_i64 (wfs0 (.i64, n0_11) (by simp))
  have wf0_12 := wf_i64 (wfs0 (.i64, n0_12) (by simp))
  have wf0_13 := wf_u8 (wfs0 (.u8, n0_13) (by simp))
  have wf0_14 := wf_u32 (wfs0 (.u32, n0_14) (by simp))
  have wf0_15 := wf_i64 (wfs0 (.i64, n0_15) (by simp))
  have wf0_16 := wf_u8 (wfs0 (.u8, n0_16) (by simp))
  have wf0_17 := wf_u32 (wfs0 (.u32, n0_17) (by simp))
  have wf0_18 := wf_i64 (wfs0 (.i64, n0_18) (by simp))
  have wf0_19 := wf_u8 (wfs0 (.u8, n0_19) (by simp))
  have wf0_20 := wf_u32 (wfs0 (.u32, n0_20) (by simp))
  have wf0_21 := wf_i64 (wfs0 (.i64, n0_21) (by simp))
  have wf0_22 := wf_u8 (wfs0 (.u8, n0_22) (by simp))
  have wf0_23 := wf_u32 (wfs0 (.u32, n0_23) (by simp))
  have wf0_24 := wf_i64 (wfs0 (.i64, n0_24) (by simp))
  have wf0_25 := wf_u8 (wfs0 (.u8, n0_25) (by simp))
  have wf0_26 := wf_u32 (wfs0 (.u32, n0_26) (by simp))
  have wf0_27 := wf_i64 (wfs0 (.i64, n0_27) (by simp))
  have wf0_28 := wf_u8 (wfs0 (.u8, n0_28) (by simp))
  have wf0_29 := wf_u32 (wfs0 (.u32, n0_29) (by simp))
  clear hA0 hval0
  refine (walk ⟨((n0_0, n0_1), (n0_2, n0_3), (n0_4, n0_5)), ((n0_6, n0_7), (n0_8, n0_9), (n0_10, n0_11)), ((n0_12, n0_13, n0_14), (n0_15, n0_16, n0_17), (n0_18, n0_19, n0_20)), ((n0_21, n0_22, n0_23), (n0_24, n0_25, n0_26), (n0_27, n0_28, n0_29))⟩ ⟨⟨⟨wf0_13, wf0_14⟩, ⟨wf0_16, wf0_17⟩, ⟨wf0_19, wf0_20⟩⟩, ⟨⟨wf0_22, wf0_23⟩, ⟨wf0_25, wf0_26⟩, ⟨wf0_28, wf0_29⟩⟩⟩ W).mono fun e W' ⟨he, hg⟩ => ?_
  subst he
  exact ⟨_, rfl, post_below (pv := []) hW' (fun _ _ _ => (trodAll_cons_mk (shut_bool Tryz.underlying4 _) trodAll_mk0))
    (fun sp hsp => trodAll_stays laidOut hg sp _ _ _ _ (fun t ht => by simpa using (List.all_eq_true.1 okParams) t ht) hAk hlt (fun x hx => by simp at hx)) (fun _ _ => rfl) rfl
    hg (ok_one (by kernel_rfl) rfl (okWide_bool_mk Tryz.underlying4 _))⟩

theorem proved : Rows.VecNormsSaid :=
  OpenClaim.holds_of_wide 5 Tryz.f5 rfl rfl rfl rfl rfl rfl rfl ⟨rfl, rfl, rfl, rfl, rfl⟩ rfl rfl rfl rfl rfl (by kernel_rfl) Tryz.func5 (by kernel_rfl)
    (of_decide_eq_true (by kernel_rfl)) (by unfold Func.isWrapper; first | (rw [if_pos (by decide +kernel)]; kernel_rfl) | (rw [if_neg (by decide +kernel)]; exact ⟨rfl, rfl⟩))
    (fun os started H enc _ => lifted os started H enc)
end Go.Proofs.YtmnccbhlllnlbaaGreat.vecNorms
