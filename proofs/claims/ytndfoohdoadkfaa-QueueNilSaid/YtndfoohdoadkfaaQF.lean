/- QueueNil: the walk. -/
import Derived.Test.YtndfoohdoadkfaaQE
set_option linter.unusedVariables false
set_option linter.unusedSimpArgs false
namespace Go.Proofs.Ytndfoohdoadkfaa
open Go.RowKit
set_option maxRecDepth 10000 in
set_option maxHeartbeats 0 in
theorem nil_walk (x : It) (w : World) : Calls Try.prog 4 #[.agg (IS x)] w fun e w' => e = .returned (.bool true) ∧ Below w.heap.size w w' := by
  obtain ⟨t, r, g⟩ := x
  rw [show IS ⟨t, r, g⟩ = #[.int .i64 t, .int .i64 r, .int .i64 g] from rfl]
  go_enter Try.func4, Try.ntmps4
  go_wp2
  obtain ⟨W0, hW0⟩ : ∃ W0, W0 = w.alloc (.cells #[.int .i64 t, .int .i64 r, .int .i64 g] 36) := ⟨_, rfl⟩
  have HW := Lib.hid (show Below w.heap.size w W0 from by rw [hW0]; exact below_alloc (Below.refl _ _) _)
  have HC := Lib.hid (show W0.heap[w.heap.size]? = some (.cells #[.int .i64 t, .int .i64 r, .int .i64 g] 36) from by rw [hW0]; exact heap_alloc_new w _)
  rw [← hW0]
  clear hW0
  go_loopw [3, 4] (fun p n wr => ∃ (i : Nat), n = .int .i64 i ∧ i ≤ 2 ∧ Hid (QDead wr p) ∧ Hid (Below W0.heap.size W0 wr)) (fun _ n _ => 2 - (intOf n).toNat)
  case atStart => exact ⟨0, rfl, by omega, Lib.hid (.inl rfl), Lib.hid (Below.refl _ _)⟩
  case round =>
    obtain ⟨i, rfl, hi, HD, HB⟩ := hrel
    by_cases q : i < 2
    · go_wp2_with (first
        | (go_at_call 12; refine (d_pop _ _ HD.out).mono ?_; rintro e w1 ⟨rfl, h1⟩; have HD1 := Lib.hid (HD.out.below h1); have HB1 := Lib.hid (bel HB.out h1); clear h1 HD HB; rw [show IS I0 = #[.int .i64 0, .int .i64 0, .int .i64 0] from rfl])
        | (go_at_call 13; refine (d_peek _ _ (HD1.out.below (below_alloc (Below.refl _ _) _))).mono ?_; rintro e w2 ⟨rfl, h2⟩; have HD2 := Lib.hid ((HD1.out.below (below_alloc (Below.refl _ _) _)).below h2); have HB2 := Lib.hid (bel (below_alloc HB1.out _) h2); clear h2 HD1 HB1; have hc := (HB2.out.block _ (heap_lt HC.out)).trans HC.out; have hz : w.heap.size < w2.heap.size := heap_lt hc; have ca : w2.cell? ⟨w.heap.size, 0, none⟩ = some (.int .i64 t) := cell_of_heap hc (j := 0) rfl; have cb : w2.cell? ⟨w.heap.size, 1, none⟩ = some (.int .i64 r) := cell_of_heap hc (j := 1) rfl; have cc : w2.cell? ⟨w.heap.size, 2, none⟩ = some (.int .i64 g) := cell_of_heap hc (j := 2) rfl; clear hc; rw [show IS I0 = #[.int .i64 0, .int .i64 0, .int .i64 0] from rfl])
        | (go_at_call 15; refine (d_push _ ⟨t, r, g⟩ _ (HD2.out.below (below_alloc (Below.refl _ _) _))).mono ?_; rintro e w3 ⟨rfl, h3⟩; have HD3 := Lib.hid ((HD2.out.below (below_alloc (Below.refl _ _) _)).below h3); have HB3 := Lib.hid (bel (below_alloc HB2.out _) h3); clear h3 HD2 HB2)
        | (go_at_call 14; refine (num_is _ _).mono ?_; rintro e w4 ⟨rfl, rfl⟩)
        | (go_at_call 16; refine (d_len _ _ HD3.out).mono ?_; rintro e w5 ⟨rfl, rfl⟩))
      go_roundw
      case rel => exact ⟨i + 1, by go_num, by omega, Lib.hid (.inr ⟨_, rfl, heap_alloc_new _ _⟩), Lib.hid (below_alloc HB3.out _)⟩
      case measure =>
        simp [intOf]
        omega
    · obtain rfl : i = 2 := by omega
      go_wp2_with (go_at_call 8; refine (knows_is _).mono ?_; rintro e w1 ⟨rfl, hb⟩)
      go_ret
      exact ⟨rfl, bel (bel HW.out HB.out) hb⟩
end Go.Proofs.Ytndfoohdoadkfaa
