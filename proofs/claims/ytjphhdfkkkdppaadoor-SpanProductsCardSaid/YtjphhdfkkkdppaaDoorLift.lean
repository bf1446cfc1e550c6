/- From a walk to a tied card: what is common to the laws of this seat: the powers of ten out of the row's condition, a witness, the last step. -/
import Derived.Test.YtjphhdfkkkdppaaDoorLawB
import Derived.Test.YtjphhdfkkkdppaaDoorTie
import Derived.Test.YtjphhdfkkkdppaaDoorCards
import Derived.ProofKit
import Derived.OpenShut
import Derived.ChangeSame
import Derived.ChangeVars
import Derived.LaidLaws
import Derived.LaidHandle
import Derived.LaidSub
import Derived.LaidOnce
import Derived.Lib.LaidTab
import Derived.SevenTiedAt
import Derived.LaidMore
namespace Go.Proofs.YtjphhdfkkkdppaaDoor
open Go.ChangeShapes Go.WideShapes Go.ChangeAt Go.RowKit Mnc

theorem own : ownKnob Tryd.prog.godebug = none := by kernel_rfl
def laidL : List (String × DataW Unit) := [("monocle/fix.powers", Rows.laid_monocle_fix_powers)]

theorem gPow : Tryd.prog.globalNamed "monocle/fix.powers" = some 0 := by kernel_rfl
theorem gPowType : (Tryd.prog.globals[0]?).map (·.type) = some 91 := by kernel_rfl
theorem gPowCellsT : Tryd.prog.cellsOf 91 = 13 := by kernel_rfl
theorem gPowCellsE : Tryd.prog.cellsOf 48 = 1 := by kernel_rfl
theorem gPowUnd : Tryd.prog.underlying 91 = some (.array 13 48) := by kernel_rfl
theorem gPowUndE : Tryd.prog.underlying 48 = some (.int .u64) := by kernel_rfl

theorem lt_of_cell {w : World} {a : Addr} {v : Value} (h : w.cell? a = some v) : a.block < w.heap.size := by
  apply Nat.lt_of_not_le
  intro hn
  rw [World.cell?, Array.getElem?_eq_none hn] at h
  cases h

theorem pows_of_laid {W : World} (h : laidMetH Tryd.prog laidL W) : Pows W := by
  have h1 : laidMet Tryd.prog [("monocle/fix.powers", Lib.tabData .u64 [1, 10, 100, 1000, 10000, 100000, 1000000, 10000000, 100000000, 1000000000, 10000000000, 100000000000, 1000000000000])] W := (laidMetH_iff.1 h).1
  have hT := Lib.tabIs_of_head gPow gPowType gPowUnd gPowUndE gPowCellsE gPowCellsT h1
  refine ⟨lt_of_cell (hT.cell gPow 0 (by decide)), fun k hk => ?_⟩
  rw [hT.cell gPow k hk]
  rcases (by omega : k = 0 ∨ k = 1 ∨ k = 2 ∨ k = 3 ∨ k = 4 ∨ k = 5 ∨ k = 6 ∨ k = 7 ∨ k = 8 ∨ k = 9 ∨ k = 10 ∨ k = 11 ∨ k = 12) with rfl | rfl | rfl | rfl | rfl | rfl | rfl | rfl | rfl | rfl | rfl | rfl | rfl <;> rfl

theorem door_met (os : Os) (args : Array Value) : laidMetH Tryd.prog laidL ((World.doorLaid Tryd.prog 400 os).forCall (fun _ _ => 0) ⟨#[], args, []⟩).memory :=
  laidMetH_of_parts3 (fuel := 8) (laidMet_of_run' 8 (by kernel_rfl) (by kernel_rfl)) (by kernel_rfl) (by kernel_rfl)

/-- The last step of a row of which 'Below' alone is known. -/
theorem post_below {H : Type} {enc : TypeId × Value → H} {P : Program} {f : Func} {s : ChangeSpec} {apart fresh handsOn again : Bool} {W W' : World} {args : Array Value} {v : Value} {ds gs : List (DataW H)} {before pa pv : List MemPlace}
    (hW : DataW.Whole enc P f.params.toList s.vars apart W args.toList ds gs before)
    (hres : ∀ (b : Nat) (sp : Nat → Bool) (hd : Bool), DataW.TrodAll enc P W' b sp hd f.resultTypes.toList (v.resultList f.resultTypes.size) (s.fn H (ds ++ gs)).results [])
    (hargs : ∀ sp : Nat → Bool, (∀ p ∈ before, sp p.block = true) → DataW.TrodAll enc P W' 0 sp true f.params.toList args.toList (s.fn H (ds ++ gs)).args pa)
    (hvars : ∀ sp : Nat → Bool, (∀ p ∈ before, sp p.block = true) → DataW.TrodVars enc P W' sp s.vars (s.fn H (ds ++ gs)).vars pv)
    (hps : before = pa ++ pv) (hb : Below W.heap.size W W')
    (hok : ∀ (j : Nat) (t : TypeId) (r : Value), f.resultTypes[j]? = some t → (v.resultList f.resultTypes.size)[j]? = some r → Value.okWide P W' .any 0 t r) :
    s.post enc P f apart fresh handsOn again W args v W' := by
  have hin : ∀ p ∈ before, p.block < W.heap.size := fun p hp => hW.lt p hp
  have hsp : ∀ p ∈ before, (fun b => decide (b < W.heap.size)) p.block = true := fun p hp => by simpa using hin p hp
  refine ⟨ds, gs, before, [], pa, pv, hW, hres _ _ _, hargs _ hsp, hvars _ hsp, World.keptBut_mono (fun p hp => ⟨hp, ?_⟩) (hb.frame (· ∈ before)), fun _ => ?_⟩
  · rw [hps, List.mem_append] at hp
    exact Or.inr hp
  · obtain ⟨_, _, _, _, _, hz, hn⟩ := hW
    refine ⟨hok, _, _, ([] ++ pa) ++ pv, ⟨[] ++ pa, pv, trodAll_append (hargs _ (fun _ _ => rfl)) (hres _ _ _), hvars _ (fun _ _ => rfl), rfl, fun b off hp => ?_, fun ha => ?_⟩, fun p hp _ => ?_⟩
    · have hi : MemPlace.cell b off ∈ before := by rw [hps]; simpa using hp
      rw [hb.frozen (hin _ hi)]
      exact hz b off hi
    · have := hn ha
      rw [hps] at this
      simpa using this
    · rw [hps]
      simpa using hp
end Go.Proofs.YtjphhdfkkkdppaaDoor
