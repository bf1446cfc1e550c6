/- Contracts of package poly: slices.Clone at intervals; Slope. -/
import Derived.Test.YtgfofilkpaelnaaPolyC
import Derived.Test.YtgfofilkpaelnaaSpanH
import Derived.Test.YtgfofilkpaelnaaPolyPlainB
namespace Go.Proofs.Ytgfofilkpaelnaa
open Go.RowKit Go.Shelf Mnc

set_option maxRecDepth 100000 in
set_option maxHeartbeats 2000000 in
theorem clone_spans (l : List (Int × Int)) (b off : Nat) (cap : Nat) (w : World) (h : SpSl w (some ⟨b, off, none⟩) cap l) (hl : l.length ≤ 1000) :
    Calls Try.prog 24 #[.slice (some ⟨b, off, none⟩) l.length cap] w fun e w' => ∃ v', e = .returned v' ∧ w'.ownsRow w.heap.size 24 2 v' l.length (flat l) ∧ v' ≠ .slice none 0 0 ∧ Below w.heap.size w w' := by
  obtain ⟨i0, hi, hz0, hz1, hz2⟩ := info_parts spanInfo
  have q22 : ∀ (w : World) (a : Option Addr) (n c n' c' : Nat), (binOp .eql 22 (.slice a n c) (.slice none n' c')).run Try.prog w = .ok (.bool a.isNone) w := fun w a n c n' c' => Lib.run_eql_slice_nil w _ _ a n c n' c' Try.underlying22
  have hcells := Lib.hid (h.on (below_alloc (Below.refl w.heap.size w) (.cells #[] 24)))
  have HF := Lib.hid (flat_len l)
  have HL := Lib.hid hl
  clear h
  obtain ⟨n, hn⟩ : ∃ n, n = l.length := ⟨_, rfl⟩
  have HN := Lib.hid hn
  rw [← hn] at HF HL hl ⊢
  clear hn
  go_enter Try.func24, Try.ntmps24
  go_wp2_with (at_builtin; refine wpList_append_own _ rfl _ _ 22 rfl w.heap.size 24 i0 (.agg #[.int .i64 0, .int .i64 0]) 2 16 Try.underlying22 hi hz0 hz1 hz2 rfl (by decide) _ _ _ rfl (World.ownsRow_made w #[] 0 (Nat.le_refl _) (Nat.zero_le _) rfl) ⟨b, off, none⟩ n cap (flat l) rfl ?qc1 ?qc2 ?qc3 ?qc4 ?qc5 ?qc6 ?_)
  case qc1 => first | exact HF.out | (simp; omega)
  case qc2 => exact hcells.out.cells _ rfl
  case qc3 => exact flat_one_cell l
  case qc4 => unfold maxLen; omega
  case qc5 => omega
  case qc6 => simp
  intro v' w1 hown hgrow hnil
  go_wp2
  go_ret
  refine ⟨v', rfl, by simpa using hown, hnil, ?_⟩
  exact ((Below.refl _ w).alloc (Nat.le_refl _) _).grown hgrow (by simp) (by intro k hk; simp [Value.ownBlock] at hk; omega)
end Go.Proofs.Ytgfofilkpaelnaa
