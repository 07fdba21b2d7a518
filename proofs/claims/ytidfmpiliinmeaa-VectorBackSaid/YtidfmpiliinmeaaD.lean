/- Walks of vector.Right and Total. -/
import Derived.Test.YtidfmpiliinmeaaC
set_option linter.unusedVariables false
set_option linter.unusedSimpArgs false
namespace Go.Proofs.Ytidfmpiliinmeaa
open Go.RowKit
def rightB (a : Nat → Int) : Bool := (List.range 16).all fun j => decide (0 ≤ a j ∧ a j ≤ 512)
theorem right_iff (a : Nat → Int) : rightB a = true ↔ ∀ j, j < 16 → 0 ≤ a j ∧ a j ≤ 512 := by
  simp only [rightB, List.all_eq_true, List.mem_range, decide_eq_true_iff]
set_option maxHeartbeats 4000000 in
theorem right_any (a : Nat → Int) (w : World) :
    Calls Try.prog 12 #[.agg #[.int .i64 (a 0), .int .i64 (a 1), .int .i64 (a 2), .int .i64 (a 3), .int .i64 (a 4), .int .i64 (a 5), .int .i64 (a 6), .int .i64 (a 7), .int .i64 (a 8), .int .i64 (a 9), .int .i64 (a 10), .int .i64 (a 11), .int .i64 (a 12), .int .i64 (a 13), .int .i64 (a 14), .int .i64 (a 15)]] w fun e w' => e = .returned (.bool (rightB a)) ∧ Below w.heap.size w w' := by
  go_enter Try.func12, Try.ntmps12
  go_wp2
  go_loop [6] (fun t => ∃ k : Nat, k ≤ 16 ∧ t = .int .i64 k ∧ ∀ j, j < k → 0 ≤ a j ∧ a j ≤ 512) (fun t => 16 - (intOf t).toNat)
  case atStart => exact ⟨0, by omega, rfl, fun j hj => absurd hj (Nat.not_lt_zero j)⟩
  case round =>
    obtain ⟨k, hk, rfl, hc⟩ := hrel
    have Hc := Lib.hid hc
    clear hc
    by_cases q : k < 16
    · have ik := fun W => ix a k q W
      go_wp2
      all_goals first
        | (go_ret
           exact ⟨ret_bool (by
             simp only [right_iff, Bool.false_eq_true, false_iff]
             intro h
             have := h k q
             omega), by (repeat (first | with_reducible exact Below.refl _ _ | with_reducible apply below_alloc | with_reducible apply below_drew1 | with_reducible assumption | (with_reducible refine Keep.below (by assumption)) | (with_reducible refine bel ?_ (by assumption)) | ((with_reducible refine below_set ?_ ?_); rotate_left; (focus (first | assumption | omega | (simp; done) | (simp; omega))))))⟩)
        | (go_round
           case rel =>
             refine ⟨k + 1, by omega, by go_num, fun j hj => ?_⟩
             by_cases e : j = k
             · subst e
               omega
             · exact Hc.out j (by omega)
           case measure =>
             simp [intOf]
             omega)
    · obtain rfl : k = 16 := by omega
      go_wp2
      go_ret
      exact ⟨ret_bool (by
        simp only [right_iff, true_iff]
        exact fun j hj => Hc.out j hj), by (repeat (first | with_reducible exact Below.refl _ _ | with_reducible apply below_alloc | with_reducible apply below_drew1 | with_reducible assumption | (with_reducible refine Keep.below (by assumption)) | (with_reducible refine bel ?_ (by assumption)) | ((with_reducible refine below_set ?_ ?_); rotate_left; (focus (first | assumption | omega | (simp; done) | (simp; omega))))))⟩
end Go.Proofs.Ytidfmpiliinmeaa
