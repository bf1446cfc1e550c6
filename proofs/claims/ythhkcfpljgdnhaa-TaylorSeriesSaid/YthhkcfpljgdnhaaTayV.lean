/- Package taylor: Sqrt. Printed by wip/genTU.py. -/
import Derived.Test.YthhkcfpljgdnhaaTayU
import Derived.Test.YthhkcfpljgdnhaaTayT
namespace Go.Proofs.Ythhkcfpljgdnhaa
open Go.RowKit Mnc
attribute [local go_sem] RunSP_value RunSP_skip RunSP_enter evS_tmp evS_const evS_global evS_func
theorem tSqrt_len {a : List (Int × Int)} (_ : a.length = 22) (h : (tSqrt a).2 = 0) : (tSqrt a).1.length = 22 := by
  unfold tSqrt at h ⊢
  by_cases h0 : (tAt a 0).1 ≤ 0
  · simp [h0] at h
  rw [if_neg h0] at h ⊢
  refine thenE_ind (fun x => x.length = 22) h fun r _ h => ?_
  by_cases h1 : r.2.2.1 ≤ 0
  · simp [h1] at h
  rw [if_neg h1] at h ⊢
  refine thenE_ind (fun x => x.length = 22) h fun m hm h => ?_
  have hl : m.length = 22 := by
    have := tSeries_len (h := r.1) (l := [-167772160, 268435456, -536870912, 2147483648, 4294967296]) (m := zeroM.set 0 (117440512, 117440512)) (by simp [zeroM]) (by rw [hm])
    rw [hm] at this
    exact this
  iterate 8 refine thenE_ind (fun x => x.length = 22) h fun _ _ h => ?_
  refine (tBy_len h).trans ?_
  simpa using hl
/-- The square root of a model, or the first error. -/
def xSqrt (a : List (Int × Int)) : List (Int × Int) × Int := (orZ zeroM (thenE [] (tRight a) fun _ => tSqrt a), (thenE [] (tRight a) fun _ => tSqrt a).2)
theorem xSqrtLen (a : List (Int × Int)) (ha : a.length = 22) : (xSqrt a).1.length = 22 := by
  have _ := ha
  show (orZ zeroM (thenE [] (tRight a) fun _ => tSqrt a)).length = 22
  unfold orZ
  by_cases h : (thenE [] (tRight a) fun _ => tSqrt a).2 = 0
  · rw [if_pos h]
    exact (show (thenE [] (tRight a) fun _ => tSqrt a).2 = 0 → _ from fun h => thenE_ind (fun x => x.length = 22) h fun _ _ h => tSqrt_len ha h) h
  · rw [if_neg h]
    rfl
structure ESqrt1 (V : World) (b : Nat) (a : List (Int × Int)) (L : Nat → Bool) (s : Nat → Value) (w : World) : Prop where
  mu : Mut [b + 1] V w
  kt_r : L 4 = false → w.heap[b + 1]? = some (cobj 28 zeroM)
  kr_r : L 4 = true → w.heap[b + 1]? = some (cobj 28 ((xSqrt a).1))
  e0 : L 0 = true → s 4 = .func (.func 44) #[] #[.pointer (some ⟨b, 0, none⟩)]
  e1 : L 1 = true → s 5 = .tuple #[mval (xSqrt a).1, .int .i64 (xSqrt a).2]
  e2 : L 2 = true → s 6 = mval ((xSqrt a).1)
  e3 : L 3 = true → s 7 = .int .i64 ((xSqrt a).2)
  e5 : L 5 = true → s 3 = .int .i64 ((xSqrt a).2)
set_option maxRecDepth 100000 in
set_option maxHeartbeats 4000000 in
theorem taw_Sqrt (a : List (Int × Int)) (ha : a.length = 22) (w : World) :
    Calls Try.prog 9 #[mval a] w fun e w' => e = .returned (.tuple #[mval (xSqrt a).1, .int .i64 (xSqrt a).2]) ∧ Below w.heap.size w w' := by
  have HLa := Lib.hid ha
  clear ha
  go_enter Try.func9, Try.ntmps9
  refine wp_seq_k fun K0 hK0 => ?_
  have HK0 := Lib.hid hK0
  clear hK0
  go_wp2_with fail
  rename_i xa csa hca
  obtain rfl : (mc a).toArray = csa := Value.agg.inj hca
  clear hca
  obtain ⟨b, hb⟩ : ∃ b, w.heap.size = b := ⟨_, rfl⟩
  refine HK0.out _ _ ?_
  refine wp_world (fun V => Mut [] w V ∧ V.heap[b]? = some (cobj 28 a) ∧ V.heap[b + 1]? = some (cobj 28 zeroM)) ?_
    (by
      rw [← hb]
      exact ⟨(((Mut.refl _ _).alloc _).alloc _), heap_up _ (heap_at (cobj 28 a) (by simp)), heap_at (cobj 28 zeroM) (by simp)⟩)
  rintro V ⟨hm, hHBa, hHR⟩
  rw [hb]
  have HM := Lib.hid hm
  have HBW := Lib.hid hb
  have HLT := Lib.hid trivial
  have HBa := Lib.hid hHBa
  have HR := Lib.hid hHR
  clear hm hHBa hHR hb HK0
  refine wp_seq_k fun K1 hK1 => ?_
  have HK1 := Lib.hid hK1
  clear hK1
  refine wp_cut_mergeP [none, none, none, some 3, some 4, some 5, some 6, some 7] (fun s w' => Mut [b + 1] V w' ∧ w'.heap[b + 1]? = some (cobj 28 ((xSqrt a).1)) ∧ s 3 = .int .i64 ((xSqrt a).2)) (fun _ _ => False) ?_ ?_ ?_
  · intro Q2 hQ2 hP2
    refine (wpIn_wide (n := 0)).1 (show Code.wpIn (G none) 0 _ _ _ _ _ from ?_)
    refine wp_region_G (b := false) (Pn := (fun _ _ => False)) (ESqrt1 V b a) (by kernel_rfl) (by kernel_rfl) ?_ ?_ ?_ ?_
    · exact ⟨Mut.start _ false _, fun _ => HR.out, fun h => absurd h Bool.false_ne_true, fun h => absurd h Bool.false_ne_true, fun h => absurd h Bool.false_ne_true, fun h => absurd h Bool.false_ne_true, fun h => absurd h Bool.false_ne_true, fun h => absurd h Bool.false_ne_true⟩
    · refine AllSP.cons ?_ (AllSP.cons ?_ (AllSP.cons ?_ (AllSP.cons ?_ (AllSP.cons ?_ (AllSP.cons ?_ AllSP.nil)))))
      · intro L s w2 h hk hd hn
        have s1 : s 1 = _ := hk 1 (by kernel_rfl)
        refine stepSP rfl fun K hK => ?_
        exact rs_makeFunc rfl (cs := #[.pointer (some ⟨b, 0, none⟩)]) (by simp [evS_tmp, s1]) (hK _ _ { h with e0 := fun _ => rfl })
      · intro L s w2 h hk hd hn
        have s4 := h.e0 hd.1
        refine stepSP rfl fun K hK => ?_
        go_simp
        have kb0 := (h.mu.same _ (lt_of_block HBa.out) (notin1 (by omega))).trans HBa.out
        refine (tay_caught_m 44 #[.pointer (some ⟨b, 0, none⟩)] (thenE [] (tRight a) fun _ => tSqrt a) (fun h => thenE_ind (fun x => x.length = 22) h fun _ _ h => tSqrt_len HLa.out h) _ (fun W => enters_of Try.func44 (by kernel_rfl) rfl _ W) (fun W hB => tay_sqrt1 (b) a HLa.out W ((hB.block _ (lt_of_block kb0)).trans kb0))).mono ?_
        rintro e w3 ⟨rfl, hb⟩
        exact .inl ⟨_, rfl, hK _ _ { h with mu := h.mu.step hb, kt_r := fun a => bk hb (h.kt_r a), kr_r := fun a => bk hb (h.kr_r a), e1 := fun _ => rfl }⟩
      · intro L s w2 h hk hd hn
        have s5 := h.e1 hd.1
        refine stepSP rfl fun K hK => ?_
        exact rs_extract rfl s5 rfl (hK _ _ { h with e2 := fun _ => rfl })
      · intro L s w2 h hk hd hn
        have s5 := h.e1 hd.1
        refine stepSP rfl fun K hK => ?_
        exact rs_extract rfl s5 rfl (hK _ _ { h with e3 := fun _ => rfl })
      · intro L s w2 h hk hd hn
        have s2 : s 2 = _ := hk 2 (by kernel_rfl)
        have s6 := h.e2 hd.1
        have kb := h.kt_r hn
        refine stepSP rfl fun K hK => ?_
        exact rs_store rfl s2 s6 (md_store kb rfl _ (xSqrtLen a HLa.out)) (hK _ _ { h with mu := h.mu.put (List.Mem.head _) _, kt_r := nF, kr_r := fun _ => pH kb })
      · intro L s w2 h hk hd hn
        have s7 := h.e3 hd.1
        refine stepSP rfl fun K hK => ?_
        exact rs_assign rfl s7 (hK _ _ { h with e5 := fun _ => rfl })
    · intro L s w2 h hk hl
      refine (congrArg (fun a => Q2 .normal a w2) (?_ : _ = _)).mpr (hQ2 s w2 (⟨h.mu, h.kr_r (hl 4 (by decide)), h.e5 (hl 5 (by decide))⟩))
      exact frame_eq hk (by kernel_rfl) (by kernel_rfl)
    · intro c s w2 hc
      exact hc.elim
  rotate_left
  · rintro _ _ _ h
    exact h.elim
  rintro s1 V ⟨h1, c_r, k3⟩
  simp only [mergeL]
  rw [k3]
  replace HBa := Lib.hid ((h1.same _ (lt_of_block HBa.out) (notin1 (by have := HLT.out; omega))).trans HBa.out)
  replace HR := Lib.hid c_r
  replace HM := Lib.hid (HM.out.stepM h1 (by have := HBW.out; have := HLT.out; intro x hx; simp at hx; right; omega))
  clear h1 c_r k3
  refine HK1.out _ _ ?_
  have HLX := Lib.hid (xSqrtLen a HLa.out)
  refine wp_ret ?_
  exact bodyPost_ret (v := .tuple #[mval (xSqrt a).1, .int .i64 (xSqrt a).2]) (res_slot Try.results9 rfl rfl (md_loadVar HR.out HLX.out)) rfl ⟨rfl, by rw [← HBW.out]; exact HM.out.to0⟩
end Go.Proofs.Ythhkcfpljgdnhaa
