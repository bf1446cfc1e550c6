/- What a walk over calls of closures and intervals knows of its own memory; contracts of law 02's helpers: of, whole, is, fails, says. -/
import Derived.Test.YtjphhdfkkkdppaaDoorLawA
import Derived.Test.YtjphhdfkkkdppaaDoorSpanY
import Derived.Test.YtjphhdfkkkdppaaDoorSpanH
import Derived.Test.YtjphhdfkkkdppaaDoorPowE
namespace Go.Proofs.YtjphhdfkkkdppaaDoor
open Go.RowKit Mnc

structure Kn (w W : World) (bs : List (Nat × Obj)) : Prop where
  bel : Below w.heap.size w W
  blk : ∀ p ∈ bs, W.heap[p.1]? = some p.2
theorem Kn.start (w : World) : Kn w w [] := ⟨Below.refl _ _, fun p hp => by simp at hp⟩
section
variable {w W W' : World} {bs : List (Nat × Obj)}
theorem Kn.on (h : Kn w W bs) (k : Below W.heap.size W W') : Kn w W' bs :=
  ⟨below_step h.bel k, fun p hp => (k.block _ (lt_of_block (h.blk p hp))).trans (h.blk p hp)⟩
theorem Kn.al (h : Kn w W bs) (o : Obj) : Kn w (W.alloc o) ((W.heap.size, o) :: bs) :=
  ⟨below_alloc h.bel _, fun p hp => by
    rcases List.mem_cons.1 hp with rfl | hp
    · exact heap_at _ rfl
    · exact heap_up _ (h.blk p hp)⟩
theorem Kn.drop (h : Kn w W bs) : Kn w W [] := ⟨h.bel, fun p hp => by simp at hp⟩
theorem Kn.call {P : Program} {f : FuncId} {args : Array Value} {X : Ending} (h : Kn w W bs) (C : Calls P f args W fun e w' => e = X ∧ Below W.heap.size W w') : Calls P f args W fun e w' => e = X ∧ Kn w w' bs :=
  C.mono fun _ _ hh => ⟨hh.1, h.on hh.2⟩

theorem law2_of (n m : Int) (hn : -4194304 ≤ n ∧ n ≤ 4194304) (hm : -4194304 ≤ m ∧ m ≤ 4194304) (w : World) :
    Calls Tryd.prog 60 #[.int .i64 n, .int .i64 m] w fun e w' => e = .returned (.agg #[.int .i64 (n * 1073741824), .int .i64 (m * 1073741824)]) ∧ Below w.heap.size w w' := by
  obtain ⟨h1, h2⟩ := hn
  obtain ⟨h3, h4⟩ := hm
  go_enter Tryd.func60, Tryd.ntmps60
  go_wp2
  exact bodyPost_ret (v := .agg #[.int .i64 (n * 1073741824), .int .i64 (m * 1073741824)]) (by simp [results, Tryd.results60, go_sem]) rfl ⟨rfl, below_alloc (Below.refl _ _) _⟩
theorem law2_whole (n m : Int) (hn : -1048576 ≤ n ∧ n ≤ 1048576) (hm : -1048576 ≤ m ∧ m ≤ 1048576) (w : World) :
    Calls Tryd.prog 57 #[.int .i64 n, .int .i64 m] w fun e w' => e = .returned (.agg #[.int .i64 (n * 4294967296), .int .i64 (m * 4294967296)]) ∧ Below w.heap.size w w' := by
  have hB := Bx1.start w (0, 0)
  obtain ⟨h1, h2⟩ := hn
  obtain ⟨h3, h4⟩ := hm
  go_enter Tryd.func57, Tryd.ntmps57
  go_wp2_with fail
  refine (law2_of _ _ (by omega) (by omega) _).mono ?_; rintro e w2 ⟨rfl, hbel⟩
  rw [show 4 * n * 1073741824 = n * 4294967296 by omega, show 4 * m * 1073741824 = m * 4294967296 by omega]
  have hB := hB.on hbel
  clear hbel
  have c0 := cell_two0 hB.b0
  have c1 := cell_two1 hB.b0
  have f0 := free_two (i := 0) hB.b0
  have f1 := free_two (i := 1) hB.b0
  have l2 := lt_of_block hB.b0
  go_wp2_with fail
  exact bodyPost_ret (v := .agg #[.int .i64 (n * 4294967296), .int .i64 (m * 4294967296)]) (by simp [results, Tryd.results57, go_sem, c0, c1]) rfl ⟨rfl, below_set2 hB.bel (by omega) _ _⟩
theorem law2_is (x y : Int) (h : Kn w W bs) :
    Calls Tryd.prog 58 #[.agg #[.int .i64 x, .int .i64 y]] W fun e W' => e = .returned (.func (.func 81) #[] #[.pointer (some ⟨W.heap.size, 0, none⟩)]) ∧ Kn w W' ((W.heap.size, .cells #[.int .i64 x, .int .i64 y] 23 (0, 0)) :: bs) := by
  have H := Lib.hid h
  clear h
  go_enter Tryd.func58, Tryd.ntmps58
  go_wp2
  go_ret
  exact ⟨rfl, H.out.al _⟩
theorem law2_fails (n : Int) (h : Kn w W bs) :
    Calls Tryd.prog 59 #[.int .i64 n] W fun e W' => e = .returned (.func (.func 82) #[] #[.pointer (some ⟨W.heap.size, 0, none⟩)]) ∧ Kn w W' ((W.heap.size, .cells #[.int .i64 n] 30 (0, 0)) :: bs) := by
  have H := Lib.hid h
  clear h
  go_enter Tryd.func59, Tryd.ntmps59
  go_wp2
  go_ret
  exact ⟨rfl, H.out.al _⟩
theorem law2_says (n : Int) (h : Kn w W bs) :
    Calls Tryd.prog 63 #[.int .i64 n] W fun e W' => e = .returned (.func (.func 87) #[] #[.pointer (some ⟨W.heap.size, 0, none⟩)]) ∧ Kn w W' ((W.heap.size, .cells #[.int .i64 n] 3 (0, 0)) :: bs) := by
  have H := Lib.hid h
  clear h
  go_enter Tryd.func63, Tryd.ntmps63
  go_wp2
  go_ret
  exact ⟨rfl, H.out.al _⟩
theorem law2_is1 (x y : Int) (B : Nat) (h : Kn w W bs) (hB : (B, Obj.cells #[.int .i64 x, .int .i64 y] 23 (0, 0)) ∈ bs) :
    Calls Tryd.prog 81 #[.agg #[.int .i64 x, .int .i64 y], .int .i64 0, .pointer (some ⟨B, 0, none⟩)] W fun e W' => e = .returned (.bool true) ∧ Kn w W' [] := by
  have hB := h.blk _ hB
  have c0 := cell_two0 hB
  have c1 := cell_two1 hB
  have l := lt_of_block hB
  have H := Lib.hid h
  clear hB h
  go_enter Tryd.func81, Tryd.ntmps81
  go_wp2
  go_ret
  exact ⟨rfl, (H.out.al _).drop⟩
theorem law2_fails1 (n : Int) (B : Nat) (h : Kn w W bs) (hB : (B, Obj.cells #[.int .i64 n] 30 (0, 0)) ∈ bs) :
    Calls Tryd.prog 82 #[.agg #[.int .i64 0, .int .i64 0], .int .i64 n, .pointer (some ⟨B, 0, none⟩)] W fun e W' => e = .returned (.bool true) ∧ Kn w W' [] := by
  have hB := h.blk _ hB
  have c0 := cell_of_one hB
  have l := lt_of_block hB
  have H := Lib.hid h
  clear hB h
  go_enter Tryd.func82, Tryd.ntmps82
  go_wp2
  go_ret
  exact ⟨rfl, (H.out.al _).drop⟩
theorem law2_says1 (n : Int) (B : Nat) (h : Kn w W bs) (hB : (B, Obj.cells #[.int .i64 n] 3 (0, 0)) ∈ bs) :
    Calls Tryd.prog 87 #[.int .i64 n, .int .i64 0, .pointer (some ⟨B, 0, none⟩)] W fun e W' => e = .returned (.bool true) ∧ Kn w W' [] := by
  have hB := h.blk _ hB
  have c0 := cell_of_one hB
  have l := lt_of_block hB
  have H := Lib.hid h
  clear hB h
  go_enter Tryd.func87, Tryd.ntmps87
  go_wp2
  go_ret
  exact ⟨rfl, H.out.drop⟩
end
end Go.Proofs.YtjphhdfkkkdppaaDoor
