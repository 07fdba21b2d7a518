/- Walks of num, Own, knows. -/
import Derived.Test.YtjekoaodgdodjaaE
set_option linter.unusedVariables false
set_option linter.unusedSimpArgs false
namespace Go.Proofs.Ytjekoaodgdodjaa
open Go.RowKit

theorem meet_is (x y u v x' y' u' v' : Int) (w : World) {a b c d : Int} (h : meetF ⟨x, y, u, v⟩ ⟨x', y', u', v'⟩ = ⟨a, b, c, d⟩) :
    Calls Try.prog 10 #[.agg #[.int .i64 x, .int .i64 y, .int .i64 u, .int .i64 v], .agg #[.int .i64 x', .int .i64 y', .int .i64 u', .int .i64 v']] w fun e w' =>
      e = .returned (.agg #[.int .i64 a, .int .i64 b, .int .i64 c, .int .i64 d]) ∧ Below w.heap.size w w' := by
  have := meet_any x y u v x' y' u' v' w
  rw [h] at this
  exact this
theorem point_is (a b c d e f x y : Int) (w : World) {p q r : Int} (h : pointF ⟨a, b, c, d, e, f⟩ x y = (p, q, r)) :
    Calls Try.prog 20 #[.agg #[.int .i64 a, .int .i64 b, .int .i64 c, .int .i64 d, .int .i64 e, .int .i64 f], .int .i64 x, .int .i64 y] w fun r' w' =>
      r' = .returned (.tuple #[.int .i64 p, .int .i64 q, .int .i64 r]) ∧ Below w.heap.size w w' := by
  have := point_any a b c d e f x y w
  rw [h] at this
  exact this
set_option maxHeartbeats 400000 in
theorem num_any (n : Int) (w : World) : Calls Try.prog 14 #[.int .i64 n] w fun e w' => e = .returned (.int .i64 n) ∧ w = w' := by
  go_enter Try.func14, Try.ntmps14
  go_wp2
  go_ret
  exact ⟨rfl, rfl⟩
set_option maxHeartbeats 400000 in
theorem own_any (x y u v : Int) (w : World) :
    Calls Try.prog 7 #[.agg #[.int .i64 x, .int .i64 y, .int .i64 u, .int .i64 v]] w fun e w' => e = .returned (.agg #[.int .i64 x, .int .i64 y, .int .i64 u, .int .i64 v]) ∧ Below w.heap.size w w' := by
  go_enter Try.func7, Try.ntmps7
  go_wp2
  exact bodyPost_ret (v := .agg #[.int .i64 x, .int .i64 y, .int .i64 u, .int .i64 v]) (by simp [results, Try.results7, go_sem]) rfl ⟨rfl, by (repeat (first | with_reducible exact Below.refl _ _ | with_reducible apply below_alloc | with_reducible apply below_drew1 | with_reducible assumption | (with_reducible refine Keep.below (by assumption)) | (with_reducible refine bel ?_ (by assumption)) | ((with_reducible refine below_set ?_ ?_); rotate_left; (focus (first | assumption | omega | (simp; done) | (simp; omega))))))⟩

set_option maxHeartbeats 1000000 in
theorem knows_any (w : World) : Calls Try.prog 9 #[] w fun e w' => e = .returned (.bool true) ∧ Below w.heap.size w w' := by
  go_enter Try.func9, Try.ntmps9
  go_wp2_with (first | (go_at_call 10; refine (meet_is _ _ _ _ _ _ _ _ _ (a := 2) (b := 1) (c := 2) (d := 2) (by decide)).mono ?_; rintro e wm ⟨rfl, hb⟩; (try replace hb := undrew hb); have hB_wm := hb; obtain ⟨hc, hf⟩ := ch hb; have hz := hb.size; (try simp only [World.size_alloc, World.size_setCell, World.size_drew] at hz)) | (go_at_call 20; refine (point_is _ _ _ _ _ _ _ _ _ (p := 7) (q := 2) (r := 0) (by decide)).mono ?_; rintro e w1 ⟨rfl, hb⟩; (try replace hb := undrew hb); obtain ⟨hc, hf⟩ := ch hb; have hz := hb.size; (try simp only [World.size_alloc, World.size_setCell, World.size_drew] at hz); have zwm0 : wm.heap.size < w1.heap.size := (by omega)) | (go_at_call 14; refine (num_any _ _).mono ?_; rintro e w1 ⟨rfl, rfl⟩) | (go_at_call 8; refine (right_is _ _ _ _ _ (b := true) (by decide)).mono ?_; rintro e w1 ⟨rfl, hb⟩; (try replace hb := undrew hb); obtain ⟨hc, hf⟩ := ch hb; have hz := hb.size; (try simp only [World.size_alloc, World.size_setCell, World.size_drew] at hz); have zwm0 : wm.heap.size < w1.heap.size := (by omega)) | (go_at_call 12; refine (empty_is _ _ _ _ _ (b := false) (by decide)).mono ?_; rintro e w1 ⟨rfl, hb⟩; (try replace hb := undrew hb); obtain ⟨hc, hf⟩ := ch hb; have hz := hb.size; (try simp only [World.size_alloc, World.size_setCell, World.size_drew] at hz); have zwm0 : wm.heap.size < w1.heap.size := (by omega)))
  go_ret
  exact ⟨rfl, by (repeat (first | with_reducible exact Below.refl _ _ | with_reducible apply below_alloc | with_reducible apply below_drew1 | with_reducible assumption | (with_reducible refine Keep.below (by assumption)) | (with_reducible refine bel ?_ (by assumption)) | ((with_reducible refine below_set ?_ ?_); rotate_left; (focus (first | assumption | omega | (simp; done) | (simp; omega))))))⟩
end Go.Proofs.Ytjekoaodgdodjaa
