/- Walk of rect.Holds. -/
import Derived.Test.YtjekoaodgdodjaaE
set_option linter.unusedVariables false
set_option linter.unusedSimpArgs false
namespace Go.Proofs.Ytjekoaodgdodjaa
open Go.RowKit

def sholdsB (a b n : Int) : Bool := decide (a ≤ n) && decide (n < b)
set_option maxHeartbeats 400000 in
theorem sholds_any (a b n : Int) (w : World) :
    Calls Try.prog 53 #[.agg #[.int .i64 a, .int .i64 b], .int .i64 n] w fun e w' => e = .returned (.bool (sholdsB a b n)) ∧ Below w.heap.size w w' := by
  go_enter Try.func53, Try.ntmps53
  go_wp2
  all_goals (go_ret; exact ⟨ret_bool (by simp [sholdsB, *] <;> omega), by (repeat (first | with_reducible exact Below.refl _ _ | with_reducible apply below_alloc | with_reducible apply below_drew1 | with_reducible assumption | (with_reducible refine Keep.below (by assumption)) | (with_reducible refine bel ?_ (by assumption)) | ((with_reducible refine below_set ?_ ?_); rotate_left; (focus (first | assumption | omega | (simp; done) | (simp; omega))))))⟩)
def holdsF (r : R4) (x y : Int) : Bool := r.right && sholdsB r.x (r.x + r.w) x && sholdsB r.y (r.y + r.h) y
set_option maxHeartbeats 400000 in
theorem holds_any (x y u v a b : Int) (w : World) :
    Calls Try.prog 19 #[.agg #[.int .i64 x, .int .i64 y, .int .i64 u, .int .i64 v], .int .i64 a, .int .i64 b] w fun e w' => e = .returned (.bool (holdsF ⟨x, y, u, v⟩ a b)) ∧ Below w.heap.size w w' := by
  cases r : rightB x y u v with
  | true =>
    obtain ⟨a1, a2, a3, a4, a5, a6, a7, a8⟩ := right_bd r
    cases c1 : sholdsB x (x + u) a with
    | true =>
      go_enter Try.func19, Try.ntmps19
      go_wp2_with (first | (go_at_call 8; refine (right_any _ _ _ _ _).mono ?_; rintro e w1 ⟨rfl, hb⟩; (try replace hb := undrew hb); obtain ⟨hc, hf⟩ := ch hb; have hz := hb.size; (try simp only [World.size_alloc, World.size_setCell, World.size_drew] at hz); have zw0 : w.heap.size < w1.heap.size := (by omega)) | (go_at_call 40; refine (wide_any _ _ _ _ _ (by omega) (by omega) (by omega) (by omega)).mono ?_; rintro e w1 ⟨rfl, hb⟩; (try replace hb := undrew hb); obtain ⟨hc, hf⟩ := ch hb; have hz := hb.size; (try simp only [World.size_alloc, World.size_setCell, World.size_drew] at hz); have zw0 : w.heap.size < w1.heap.size := (by omega)) | (go_at_call 42; refine (tall_any _ _ _ _ _ (by omega) (by omega) (by omega) (by omega)).mono ?_; rintro e w1 ⟨rfl, hb⟩; (try replace hb := undrew hb); obtain ⟨hc, hf⟩ := ch hb; have hz := hb.size; (try simp only [World.size_alloc, World.size_setCell, World.size_drew] at hz); have zw0 : w.heap.size < w1.heap.size := (by omega)) | (go_at_call 53; refine (sholds_any _ _ _ _).mono ?_; rintro e w1 ⟨rfl, hb⟩; (try replace hb := undrew hb); obtain ⟨hc, hf⟩ := ch hb; have hz := hb.size; (try simp only [World.size_alloc, World.size_setCell, World.size_drew] at hz); have zw0 : w.heap.size < w1.heap.size := (by omega)))
      go_ret
      exact ⟨ret_bool (by simp [holdsF, R4.right, r, c1]), by (repeat (first | with_reducible exact Below.refl _ _ | with_reducible apply below_alloc | with_reducible apply below_drew1 | with_reducible assumption | (with_reducible refine Keep.below (by assumption)) | (with_reducible refine bel ?_ (by assumption)) | ((with_reducible refine below_set ?_ ?_); rotate_left; (focus (first | assumption | omega | (simp; done) | (simp; omega))))))⟩
    | false =>
      go_enter Try.func19, Try.ntmps19
      go_wp2_with (first | (go_at_call 8; refine (right_any _ _ _ _ _).mono ?_; rintro e w1 ⟨rfl, hb⟩; (try replace hb := undrew hb); obtain ⟨hc, hf⟩ := ch hb; have hz := hb.size; (try simp only [World.size_alloc, World.size_setCell, World.size_drew] at hz); have zw0 : w.heap.size < w1.heap.size := (by omega)) | (go_at_call 40; refine (wide_any _ _ _ _ _ (by omega) (by omega) (by omega) (by omega)).mono ?_; rintro e w1 ⟨rfl, hb⟩; (try replace hb := undrew hb); obtain ⟨hc, hf⟩ := ch hb; have hz := hb.size; (try simp only [World.size_alloc, World.size_setCell, World.size_drew] at hz); have zw0 : w.heap.size < w1.heap.size := (by omega)) | (go_at_call 42; refine (tall_any _ _ _ _ _ (by omega) (by omega) (by omega) (by omega)).mono ?_; rintro e w1 ⟨rfl, hb⟩; (try replace hb := undrew hb); obtain ⟨hc, hf⟩ := ch hb; have hz := hb.size; (try simp only [World.size_alloc, World.size_setCell, World.size_drew] at hz); have zw0 : w.heap.size < w1.heap.size := (by omega)) | (go_at_call 53; refine (sholds_any _ _ _ _).mono ?_; rintro e w1 ⟨rfl, hb⟩; (try replace hb := undrew hb); obtain ⟨hc, hf⟩ := ch hb; have hz := hb.size; (try simp only [World.size_alloc, World.size_setCell, World.size_drew] at hz); have zw0 : w.heap.size < w1.heap.size := (by omega)))
      go_ret
      exact ⟨ret_bool (by simp [holdsF, R4.right, r, c1]), by (repeat (first | with_reducible exact Below.refl _ _ | with_reducible apply below_alloc | with_reducible apply below_drew1 | with_reducible assumption | (with_reducible refine Keep.below (by assumption)) | (with_reducible refine bel ?_ (by assumption)) | ((with_reducible refine below_set ?_ ?_); rotate_left; (focus (first | assumption | omega | (simp; done) | (simp; omega))))))⟩
  | false =>
    go_enter Try.func19, Try.ntmps19
    go_wp2_with (first | (go_at_call 8; refine (right_any _ _ _ _ _).mono ?_; rintro e w1 ⟨rfl, hb⟩; (try replace hb := undrew hb); obtain ⟨hc, hf⟩ := ch hb; have hz := hb.size; (try simp only [World.size_alloc, World.size_setCell, World.size_drew] at hz); have zw0 : w.heap.size < w1.heap.size := (by omega)))
    go_ret
    exact ⟨ret_bool (by simp [holdsF, R4.right, r]), by (repeat (first | with_reducible exact Below.refl _ _ | with_reducible apply below_alloc | with_reducible apply below_drew1 | with_reducible assumption | (with_reducible refine Keep.below (by assumption)) | (with_reducible refine bel ?_ (by assumption)) | ((with_reducible refine below_set ?_ ?_); rotate_left; (focus (first | assumption | omega | (simp; done) | (simp; omega))))))⟩
end Go.Proofs.Ytjekoaodgdodjaa
