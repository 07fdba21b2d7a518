/- Walk of vector.Total. -/
import Derived.Test.YtidfmpiliinmeaaD
set_option linter.unusedVariables false
set_option linter.unusedSimpArgs false
namespace Go.Proofs.Ytidfmpiliinmeaa
open Go.RowKit
def sumTo (a : Nat → Int) : Nat → Int
  | 0 => 0
  | k + 1 => sumTo a k + a k
theorem sumTo_bd {a : Nat → Int} (h : ∀ j, j < 16 → 0 ≤ a j ∧ a j ≤ 512) : ∀ k, k ≤ 16 → 0 ≤ sumTo a k ∧ sumTo a k ≤ 512 * k
  | 0, _ => by simp [sumTo]
  | k + 1, hk => by
    have h1 := sumTo_bd h k (by omega)
    have h2 := h k (by omega)
    simp only [sumTo]
    omega
def totalI (a : Nat → Int) : Int := if rightB a = true then sumTo a 16 else 0
set_option maxHeartbeats 4000000 in
theorem total_any (a : Nat → Int) (w : World) :
    Calls Try.prog 13 #[.agg #[.int .i64 (a 0), .int .i64 (a 1), .int .i64 (a 2), .int .i64 (a 3), .int .i64 (a 4), .int .i64 (a 5), .int .i64 (a 6), .int .i64 (a 7), .int .i64 (a 8), .int .i64 (a 9), .int .i64 (a 10), .int .i64 (a 11), .int .i64 (a 12), .int .i64 (a 13), .int .i64 (a 14), .int .i64 (a 15)]] w fun e w' => e = .returned (.int .i64 (totalI a)) ∧ Below w.heap.size w w' := by
  unfold totalI
  cases hr : rightB a with
  | false =>
    have Hr := Lib.hid hr
    go_enter Try.func13, Try.ntmps13
    go_wp2_with (go_at_call 12; refine (right_any a _).mono ?_; rintro e w1 ⟨rfl, hb⟩; obtain ⟨hc, hf⟩ := ch hb)
    go_ret
    exact ⟨by simp, by (repeat (first | with_reducible exact Below.refl _ _ | with_reducible apply below_alloc | with_reducible apply below_drew1 | with_reducible assumption | (with_reducible refine Keep.below (by assumption)) | (with_reducible refine bel ?_ (by assumption)) | ((with_reducible refine below_set ?_ ?_); rotate_left; (focus (first | assumption | omega | (simp; done) | (simp; omega))))))⟩
  | true =>
    have hall := (right_iff a).1 hr
    have Hr := Lib.hid hr
    have Hall := Lib.hid hall
    clear hall
    go_enter Try.func13, Try.ntmps13
    go_wp2_with (go_at_call 12; refine (right_any a _).mono ?_; rintro e w1 ⟨rfl, hb⟩; obtain ⟨hc, hf⟩ := ch hb)
    go_loop [2, 9] (fun s t => ∃ k : Nat, k ≤ 16 ∧ t = .int .i64 k ∧ s = .int .i64 (sumTo a k)) (fun _ t => 16 - (intOf t).toNat)
    case atStart => exact ⟨0, by omega, rfl, rfl⟩
    case round =>
      obtain ⟨k, hk, rfl, rfl⟩ := hrel
      have hs := sumTo_bd Hall.out k hk
      by_cases q : k < 16
      · have ik := fun W => ix a k q W
        have hak := Hall.out k q
        go_wp2
        go_round
        case rel => exact ⟨k + 1, by omega, by go_num, rfl⟩
        case measure =>
          simp [intOf]
          omega
      · obtain rfl : k = 16 := by omega
        go_wp2
        go_ret
        exact ⟨by simp, by (repeat (first | with_reducible exact Below.refl _ _ | with_reducible apply below_alloc | with_reducible apply below_drew1 | with_reducible assumption | (with_reducible refine Keep.below (by assumption)) | (with_reducible refine bel ?_ (by assumption)) | ((with_reducible refine below_set ?_ ?_); rotate_left; (focus (first | assumption | omega | (simp; done) | (simp; omega))))))⟩
end Go.Proofs.Ytidfmpiliinmeaa
