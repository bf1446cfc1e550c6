/- Proved: monoclelaw21.TaylorProducts returns true for every input: Mul and Bound equal the reference: for drafted models, and such with a change. No condition. -/
import Derived.Test.YthhkcfpljgdnhaaGreatLiftT
import Derived.Test.YthhkcfpljgdnhaaGreatWTayProducts
namespace Go.Proofs.YthhkcfpljgdnhaaGreat.taylorProducts
open Go.ChangeShapes Go.WideShapes Go.ChangeAt Go.RowKit Mnc

theorem okParams : (Tryz.f3.params.toList.all fun t => Tryz.prog.readableRec t && decide (t < Tryz.prog.types.size)) = true := by kernel_rfl

set_option maxRecDepth 100000 in
theorem lifted (os : Os) (started : os.Started) (H : Type) (enc : TypeId × Value → H) :
  ReturnsInHanded {} Tryz.checked os 3 .any (Rows.taylorProductsSpec.pre6 enc Tryz.prog Tryz.f3 Rows.taylorProductsRow.domain false) (Rows.taylorProductsSpec.post enc Tryz.prog Tryz.f3 false true false false) := by
 refine returnsInHanded_of_change (C := Tryz.checked) own started (by kernel_rfl) Tryz.func3
  (ChangeSpec.witness6 (enc := enc) (C := Tryz.checked) false ⟨#[], #[.agg #[.int .i16 0, .slice none 0 0, .int .u16 0], .agg #[.int .i16 0, .slice none 0 0, .int .u16 0], .agg #[.int .u8 0, .int .i64 0, .int .i64 0]], []⟩ 8 (by kernel_rfl) (by kernel_rfl) (by kernel_rfl) (by kernel_rfl)) ?_
 intro W base args ds gs before hval0 hW hcnd _
 have hval : ∀ (j : Nat) t v, Tryz.f3.params[j]? = some t → args[j]? = some v → Value.okWide Tryz.prog W .any base t v := hval0
 have hW' := hW
 obtain ⟨p, q, hA0, hV, rfl, hfz, hnd⟩ := hW
 have hA : DataW.TrodAll enc Tryz.prog W 0 (fun _ => true) true Tryz.f3.params.toList args.toList ds p := hA0
 have hAk := hA
 have hlt : ∀ x ∈ p, x.block < W.heap.size := fun x hx => hW'.lt x (by simp [hx])
 rw [Tryz.params3] at hA hval
 obtain ⟨v0, vs0, d0, ds0, p0, q0, hargs, rfl, rfl, h0, r0⟩ := trodAll_cons hA
 obtain ⟨v1, vs1, d1, ds1, p1, q1, rfl, rfl, rfl, h1, r1⟩ := trodAll_cons r0
 obtain ⟨v2, vs2, d2, ds2, p2, q2, rfl, rfl, rfl, h2, r2⟩ := trodAll_cons r1
 obtain ⟨rfl, rfl, rfl⟩ := trodAll_nil r2
 obtain rfl : args = #[v0, v1, v2] := by cases args; simp_all
 obtain ⟨rfl, rfl⟩ := trodVars_none hV
 obtain ⟨c0, z0, ao0, cap0, ts0, rfl, hc0, hz0, ht0⟩ := open_draft (hval 0 26 v0 rfl rfl) h0
 obtain ⟨c1, z1, ao1, cap1, ts1, rfl, hc1, hz1, ht1⟩ := open_draft (hval 1 26 v1 rfl rfl) h1
 obtain ⟨rfl, ⟨l2, hl2, rfl, wfs2⟩, back2⟩ := open_struct kinds_Bend Tryz.underlying28 (hval 2 28 v2 rfl rfl) h2
 obtain ⟨n2_0, l2_0, rfl, hl2_0⟩ := map_cons_inv hl2
 obtain ⟨n2_1, l2_1, rfl, hl2_1⟩ := map_cons_inv hl2_0
 obtain ⟨n2_2, l2_2, rfl, hl2_2⟩ := map_cons_inv hl2_1
 obtain rfl := map_nil_inv hl2_2
 have wf2_0 := wf_u8 (wfs2 (.u8, n2_0) (by simp))
 have wf2_1 := wf_i64 (wfs2 (.i64, n2_1) (by simp))
 have wf2_2 := wf_i64 (wfs2 (.i64, n2_2) (by simp))
 clear hA0 hval0
 refine (taylorProducts_walk c0 z0 ts0 ao0 cap0 c1 z1 ts1 ao1 cap1 n2_0 n2_1 n2_2 ⟨hc0, hz0, hc1, hz1, b8 wf2_0⟩ W ht0 ht1).mono fun e W' ⟨he, hg⟩ => ?_
 subst he
 exact ⟨_, rfl, post_below (pv := []) hW' (fun _ _ _ => (trodAll_cons_mk (shut_bool Tryz.underlying4 _) trodAll_mk0))
  (fun sp hsp => trodAll_stays laidOut hg sp _ _ _ _ (fun t ht => by simpa using (List.all_eq_true.1 okParams) t ht) hAk hlt (fun x hx => hsp x (by simpa using hx))) (fun _ _ => rfl) rfl
  hg (ok_one (by kernel_rfl) rfl (okWide_bool_mk Tryz.underlying4 _))⟩

theorem proved : Rows.TaylorProductsSaid :=
 OpenClaim.holds_of_wide 3 Tryz.f3 rfl rfl rfl rfl rfl rfl rfl ⟨rfl, rfl, rfl, rfl, rfl⟩ rfl rfl rfl rfl rfl (by kernel_rfl) Tryz.func3 (by kernel_rfl)
  (of_decide_eq_true (by kernel_rfl)) (by unfold Func.isWrapper; first | (rw [if_pos (by decide +kernel)]; kernel_rfl) | (rw [if_neg (by decide +kernel)]; exact ⟨rfl, rfl⟩))
  (fun os started H enc _ => lifted os started H enc)
end Go.Proofs.YthhkcfpljgdnhaaGreat.taylorProducts
