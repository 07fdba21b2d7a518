/- Walks of the document's rectangles, and of Inset and Ref. -/
import Derived.Test.YtjekoaodgdodjaaRP
import Derived.Test.YtjekoaodgdodjaaPInsetx1
set_option linter.unusedVariables false
set_option linter.unusedSimpArgs false
namespace Go.Proofs.Ytjekoaodgdodjaa
open Go.RowKit
open PLess
open Go.Proofs.YtjekoaodgdodjaaW.PrintWords (Drawn0)
attribute [local go_sem] max2_int min2_int max_two min_two
theorem rightD4 (x y u v : Int) (w : World) : Calls Try.prog 27 #[.agg #[.int .i64 x, .int .i64 y, .int .i64 u, .int .i64 v]] w fun e w' => e = .returned (.bool (rightB x y u v)) ∧ Below w.heap.size w w' := dioramaref20_Right.calls _ _ _ _ _ w (refRight _ _ _ _)
theorem emptyD4 (x y u v : Int) (w : World) : Calls Try.prog 28 #[.agg #[.int .i64 x, .int .i64 y, .int .i64 u, .int .i64 v]] w fun e w' => e = .returned (.bool (emptyB x y u v)) ∧ Below w.heap.size w w' := dioramaref20_Empty.calls _ _ _ _ _ w (refEmpty _ _ _ _)
theorem inD (n : Int) (w : World) : Calls Try.prog 56 #[.int .i64 n, .int .i64 4294967296] w fun e w' => e = .returned (.bool (inB n 4294967296)) ∧ Below w.heap.size w w' :=
  (dioramaref20_in.calls _ _ _ w (refIn n)).mono fun e w' ⟨he, hb⟩ => ⟨he, hb.below⟩
theorem edgesD (a b c d : Int) (w : World) (h1 : -9223372036854775808 ≤ c - a) (h2 : c - a ≤ 9223372036854775807) (h3 : -9223372036854775808 ≤ d - b) (h4 : d - b ≤ 9223372036854775807) :
    Calls Try.prog 55 #[.int .i64 a, .int .i64 b, .int .i64 c, .int .i64 d] w fun e w' => e = .returned (.agg #[.int .i64 a, .int .i64 b, .int .i64 (c - a), .int .i64 (d - b)]) ∧ Below w.heap.size w w' :=
  dioramaref20_edges.calls _ _ _ _ _ _ _ _ w (by unfold dioramaref20_edges.f; rw [w_in h1 h2, w_in h3 h4])
set_option maxHeartbeats 400000 in
theorem fitD_yes (x y u v : Int) (w : World) (h : rightB x y u v = true) :
    Calls Try.prog 54 #[.agg #[.int .i64 x, .int .i64 y, .int .i64 u, .int .i64 v]] w fun e w' => e = .returned (.tuple #[.agg #[.int .i64 x, .int .i64 y, .int .i64 u, .int .i64 v], .int .i64 0]) ∧ Below w.heap.size w w' := by
  go_enter Try.func54, Try.ntmps54
  go_wp2_with (go_at_call 27; refine (rightD4 _ _ _ _ _).mono ?_; rintro e w1 ⟨rfl, hb⟩; (try replace hb := undrew hb); obtain ⟨hc, hf⟩ := ch hb; have hz := hb.size; (try simp only [World.size_alloc, World.size_setCell, World.size_drew] at hz); have zw0 : w.heap.size < w1.heap.size := (by omega); have zw1 : w.heap.size + 1 < w1.heap.size := (by omega))
  exact bodyPost_ret (v := .tuple #[.agg #[.int .i64 x, .int .i64 y, .int .i64 u, .int .i64 v], .int .i64 0]) (by simp [results, Try.results54, go_sem, *]) rfl ⟨rfl, by (repeat (first | with_reducible exact Below.refl _ _ | with_reducible apply below_alloc | with_reducible apply below_drew1 | with_reducible assumption | (with_reducible refine Keep.below (by assumption)) | (with_reducible refine bel ?_ (by assumption)) | ((with_reducible refine below_set ?_ ?_); rotate_left; (focus (first | assumption | omega | (simp; done) | (simp; omega))))))⟩
set_option maxHeartbeats 400000 in
theorem fitD_no (x y u v : Int) (w : World) (h : rightB x y u v = false) :
    Calls Try.prog 54 #[.agg #[.int .i64 x, .int .i64 y, .int .i64 u, .int .i64 v]] w fun e w' => e = .returned (.tuple #[.agg #[.int .i64 0, .int .i64 0, .int .i64 0, .int .i64 0], .int .i64 30]) ∧ Below w.heap.size w w' := by
  go_enter Try.func54, Try.ntmps54
  go_wp2_with (go_at_call 27; refine (rightD4 _ _ _ _ _).mono ?_; rintro e w1 ⟨rfl, hb⟩; (try replace hb := undrew hb); obtain ⟨hc, hf⟩ := ch hb; have hz := hb.size; (try simp only [World.size_alloc, World.size_setCell, World.size_drew] at hz); have zw0 : w.heap.size < w1.heap.size := (by omega); have zw1 : w.heap.size + 1 < w1.heap.size := (by omega))
  exact bodyPost_ret (v := .tuple #[.agg #[.int .i64 0, .int .i64 0, .int .i64 0, .int .i64 0], .int .i64 30]) (by simp [results, Try.results54, go_sem, *]) rfl ⟨rfl, by (repeat (first | with_reducible exact Below.refl _ _ | with_reducible apply below_alloc | with_reducible apply below_drew1 | with_reducible assumption | (with_reducible refine Keep.below (by assumption)) | (with_reducible refine bel ?_ (by assumption)) | ((with_reducible refine below_set ?_ ?_); rotate_left; (focus (first | assumption | omega | (simp; done) | (simp; omega))))))⟩
set_option maxHeartbeats 1000000 in
theorem joinD4 (p q : R4) (w : World) :
    Calls Try.prog 21 #[.agg #[.int .i64 p.x, .int .i64 p.y, .int .i64 p.w, .int .i64 p.h], .agg #[.int .i64 q.x, .int .i64 q.y, .int .i64 q.w, .int .i64 q.h]] w fun e w' => e = .returned (.tuple #[(joinF p q).1.v, .int .i64 (joinF p q).2]) ∧ Below w.heap.size w w' := by
  obtain ⟨x, y, u, v⟩ := p
  obtain ⟨x', y', u', v'⟩ := q
  show Calls Try.prog 21 #[.agg #[.int .i64 x, .int .i64 y, .int .i64 u, .int .i64 v], .agg #[.int .i64 x', .int .i64 y', .int .i64 u', .int .i64 v']] w _
  cases a : rightB x y u v with
  | false =>
    go_enter Try.func21, Try.ntmps21
    go_wp2_with (go_at_call 27; refine (rightD4 _ _ _ _ _).mono ?_; rintro e w1 ⟨rfl, hb⟩; (try replace hb := undrew hb); obtain ⟨hc, hf⟩ := ch hb; have hz := hb.size; (try simp only [World.size_alloc, World.size_setCell, World.size_drew] at hz); have zw0 : w.heap.size < w1.heap.size := (by omega); have zw1 : w.heap.size + 1 < w1.heap.size := (by omega); have zw2 : w.heap.size + 1 + 1 < w1.heap.size := (by omega))
    exact bodyPost_ret (v := .tuple #[.agg #[.int .i64 0, .int .i64 0, .int .i64 0, .int .i64 0], .int .i64 1]) (by simp [results, Try.results21, go_sem, *]) rfl ⟨by simp [joinF, R4.right, a, R4.zero], by (repeat (first | with_reducible exact Below.refl _ _ | with_reducible apply below_alloc | with_reducible apply below_drew1 | with_reducible assumption | (with_reducible refine Keep.below (by assumption)) | (with_reducible refine bel ?_ (by assumption)) | ((with_reducible refine below_set ?_ ?_); rotate_left; (focus (first | assumption | omega | (simp; done) | (simp; omega))))))⟩
  | true =>
    cases b : rightB x' y' u' v' with
    | false =>
      go_enter Try.func21, Try.ntmps21
      go_wp2_with (go_at_call 27; refine (rightD4 _ _ _ _ _).mono ?_; rintro e w1 ⟨rfl, hb⟩; (try replace hb := undrew hb); obtain ⟨hc, hf⟩ := ch hb; have hz := hb.size; (try simp only [World.size_alloc, World.size_setCell, World.size_drew] at hz); have zw0 : w.heap.size < w1.heap.size := (by omega); have zw1 : w.heap.size + 1 < w1.heap.size := (by omega); have zw2 : w.heap.size + 1 + 1 < w1.heap.size := (by omega))
      exact bodyPost_ret (v := .tuple #[.agg #[.int .i64 0, .int .i64 0, .int .i64 0, .int .i64 0], .int .i64 1]) (by simp [results, Try.results21, go_sem, *]) rfl ⟨by simp [joinF, R4.right, a, b, R4.zero], by (repeat (first | with_reducible exact Below.refl _ _ | with_reducible apply below_alloc | with_reducible apply below_drew1 | with_reducible assumption | (with_reducible refine Keep.below (by assumption)) | (with_reducible refine bel ?_ (by assumption)) | ((with_reducible refine below_set ?_ ?_); rotate_left; (focus (first | assumption | omega | (simp; done) | (simp; omega))))))⟩
    | true =>
      obtain ⟨a1, a2, a3, a4, a5, a6, a7, a8⟩ := right_bd a
      obtain ⟨b1, b2, b3, b4, b5, b6, b7, b8⟩ := right_bd b
      cases c : emptyB x y u v with
      | true =>
        go_enter Try.func21, Try.ntmps21
        go_wp2_with (first | (go_at_call 27; refine (rightD4 _ _ _ _ _).mono ?_; rintro e w1 ⟨rfl, hb⟩; (try replace hb := undrew hb); obtain ⟨hc, hf⟩ := ch hb; have hz := hb.size; (try simp only [World.size_alloc, World.size_setCell, World.size_drew] at hz); have zw0 : w.heap.size < w1.heap.size := (by omega); have zw1 : w.heap.size + 1 < w1.heap.size := (by omega); have zw2 : w.heap.size + 1 + 1 < w1.heap.size := (by omega)) | (go_at_call 28; refine (emptyD4 _ _ _ _ _).mono ?_; rintro e w1 ⟨rfl, hb⟩; (try replace hb := undrew hb); obtain ⟨hc, hf⟩ := ch hb; have hz := hb.size; (try simp only [World.size_alloc, World.size_setCell, World.size_drew] at hz); have zw0 : w.heap.size < w1.heap.size := (by omega); have zw1 : w.heap.size + 1 < w1.heap.size := (by omega); have zw2 : w.heap.size + 1 + 1 < w1.heap.size := (by omega)))
        exact bodyPost_ret (v := .tuple #[.agg #[.int .i64 x', .int .i64 y', .int .i64 u', .int .i64 v'], .int .i64 0]) (by simp [results, Try.results21, go_sem, *]) rfl ⟨by simp [joinF, R4.right, R4.empty, a, b, c], by (repeat (first | with_reducible exact Below.refl _ _ | with_reducible apply below_alloc | with_reducible apply below_drew1 | with_reducible assumption | (with_reducible refine Keep.below (by assumption)) | (with_reducible refine bel ?_ (by assumption)) | ((with_reducible refine below_set ?_ ?_); rotate_left; (focus (first | assumption | omega | (simp; done) | (simp; omega))))))⟩
      | false =>
        cases d : emptyB x' y' u' v' with
        | true =>
          go_enter Try.func21, Try.ntmps21
          go_wp2_with (first | (go_at_call 27; refine (rightD4 _ _ _ _ _).mono ?_; rintro e w1 ⟨rfl, hb⟩; (try replace hb := undrew hb); obtain ⟨hc, hf⟩ := ch hb; have hz := hb.size; (try simp only [World.size_alloc, World.size_setCell, World.size_drew] at hz); have zw0 : w.heap.size < w1.heap.size := (by omega); have zw1 : w.heap.size + 1 < w1.heap.size := (by omega); have zw2 : w.heap.size + 1 + 1 < w1.heap.size := (by omega)) | (go_at_call 28; refine (emptyD4 _ _ _ _ _).mono ?_; rintro e w1 ⟨rfl, hb⟩; (try replace hb := undrew hb); obtain ⟨hc, hf⟩ := ch hb; have hz := hb.size; (try simp only [World.size_alloc, World.size_setCell, World.size_drew] at hz); have zw0 : w.heap.size < w1.heap.size := (by omega); have zw1 : w.heap.size + 1 < w1.heap.size := (by omega); have zw2 : w.heap.size + 1 + 1 < w1.heap.size := (by omega)))
          exact bodyPost_ret (v := .tuple #[.agg #[.int .i64 x, .int .i64 y, .int .i64 u, .int .i64 v], .int .i64 0]) (by simp [results, Try.results21, go_sem, *]) rfl ⟨by simp [joinF, R4.right, R4.empty, a, b, c, d], by (repeat (first | with_reducible exact Below.refl _ _ | with_reducible apply below_alloc | with_reducible apply below_drew1 | with_reducible assumption | (with_reducible refine Keep.below (by assumption)) | (with_reducible refine bel ?_ (by assumption)) | ((with_reducible refine below_set ?_ ?_); rotate_left; (focus (first | assumption | omega | (simp; done) | (simp; omega))))))⟩
        | false =>
          cases e : rightB (min x x') (min y y') (max (x + u) (x' + u') - min x x') (max (y + v) (y' + v') - min y y') with
          | true =>
            go_enter Try.func21, Try.ntmps21
            go_wp2_with (first | (go_at_call 27; refine (rightD4 _ _ _ _ _).mono ?_; rintro e w1 ⟨rfl, hb⟩; (try replace hb := undrew hb); obtain ⟨hc, hf⟩ := ch hb; have hz := hb.size; (try simp only [World.size_alloc, World.size_setCell, World.size_drew] at hz); have zw0 : w.heap.size < w1.heap.size := (by omega); have zw1 : w.heap.size + 1 < w1.heap.size := (by omega); have zw2 : w.heap.size + 1 + 1 < w1.heap.size := (by omega)) | (go_at_call 28; refine (emptyD4 _ _ _ _ _).mono ?_; rintro e w1 ⟨rfl, hb⟩; (try replace hb := undrew hb); obtain ⟨hc, hf⟩ := ch hb; have hz := hb.size; (try simp only [World.size_alloc, World.size_setCell, World.size_drew] at hz); have zw0 : w.heap.size < w1.heap.size := (by omega); have zw1 : w.heap.size + 1 < w1.heap.size := (by omega); have zw2 : w.heap.size + 1 + 1 < w1.heap.size := (by omega)) | (go_at_call 55; refine (edgesD _ _ _ _ _ (by omega) (by omega) (by omega) (by omega)).mono ?_; rintro e w1 ⟨rfl, hb⟩; (try replace hb := undrew hb); obtain ⟨hc, hf⟩ := ch hb; have hz := hb.size; (try simp only [World.size_alloc, World.size_setCell, World.size_drew] at hz); have zw0 : w.heap.size < w1.heap.size := (by omega); have zw1 : w.heap.size + 1 < w1.heap.size := (by omega); have zw2 : w.heap.size + 1 + 1 < w1.heap.size := (by omega)) | (go_at_call 54; refine (fitD_yes _ _ _ _ _ e).mono ?_; rintro e w1 ⟨rfl, hb⟩; (try replace hb := undrew hb); obtain ⟨hc, hf⟩ := ch hb; have hz := hb.size; (try simp only [World.size_alloc, World.size_setCell, World.size_drew] at hz); have zw0 : w.heap.size < w1.heap.size := (by omega); have zw1 : w.heap.size + 1 < w1.heap.size := (by omega); have zw2 : w.heap.size + 1 + 1 < w1.heap.size := (by omega)))
            exact bodyPost_ret (v := .tuple #[.agg #[.int .i64 (min x x'), .int .i64 (min y y'), .int .i64 (max (x + u) (x' + u') - min x x'), .int .i64 (max (y + v) (y' + v') - min y y')], .int .i64 0]) (by simp [results, Try.results21, go_sem, *]) rfl ⟨by simp [joinF, hullF, R4.right, R4.empty, a, b, c, d, e], by (repeat (first | with_reducible exact Below.refl _ _ | with_reducible apply below_alloc | with_reducible apply below_drew1 | with_reducible assumption | (with_reducible refine Keep.below (by assumption)) | (with_reducible refine bel ?_ (by assumption)) | ((with_reducible refine below_set ?_ ?_); rotate_left; (focus (first | assumption | omega | (simp; done) | (simp; omega))))))⟩
          | false =>
            go_enter Try.func21, Try.ntmps21
            go_wp2_with (first | (go_at_call 27; refine (rightD4 _ _ _ _ _).mono ?_; rintro e w1 ⟨rfl, hb⟩; (try replace hb := undrew hb); obtain ⟨hc, hf⟩ := ch hb; have hz := hb.size; (try simp only [World.size_alloc, World.size_setCell, World.size_drew] at hz); have zw0 : w.heap.size < w1.heap.size := (by omega); have zw1 : w.heap.size + 1 < w1.heap.size := (by omega); have zw2 : w.heap.size + 1 + 1 < w1.heap.size := (by omega)) | (go_at_call 28; refine (emptyD4 _ _ _ _ _).mono ?_; rintro e w1 ⟨rfl, hb⟩; (try replace hb := undrew hb); obtain ⟨hc, hf⟩ := ch hb; have hz := hb.size; (try simp only [World.size_alloc, World.size_setCell, World.size_drew] at hz); have zw0 : w.heap.size < w1.heap.size := (by omega); have zw1 : w.heap.size + 1 < w1.heap.size := (by omega); have zw2 : w.heap.size + 1 + 1 < w1.heap.size := (by omega)) | (go_at_call 55; refine (edgesD _ _ _ _ _ (by omega) (by omega) (by omega) (by omega)).mono ?_; rintro e w1 ⟨rfl, hb⟩; (try replace hb := undrew hb); obtain ⟨hc, hf⟩ := ch hb; have hz := hb.size; (try simp only [World.size_alloc, World.size_setCell, World.size_drew] at hz); have zw0 : w.heap.size < w1.heap.size := (by omega); have zw1 : w.heap.size + 1 < w1.heap.size := (by omega); have zw2 : w.heap.size + 1 + 1 < w1.heap.size := (by omega)) | (go_at_call 54; refine (fitD_no _ _ _ _ _ e).mono ?_; rintro e w1 ⟨rfl, hb⟩; (try replace hb := undrew hb); obtain ⟨hc, hf⟩ := ch hb; have hz := hb.size; (try simp only [World.size_alloc, World.size_setCell, World.size_drew] at hz); have zw0 : w.heap.size < w1.heap.size := (by omega); have zw1 : w.heap.size + 1 < w1.heap.size := (by omega); have zw2 : w.heap.size + 1 + 1 < w1.heap.size := (by omega)))
            exact bodyPost_ret (v := .tuple #[.agg #[.int .i64 0, .int .i64 0, .int .i64 0, .int .i64 0], .int .i64 30]) (by simp [results, Try.results21, go_sem, *]) rfl ⟨by simp [joinF, hullF, R4.right, R4.empty, R4.zero, a, b, c, d, e], by (repeat (first | with_reducible exact Below.refl _ _ | with_reducible apply below_alloc | with_reducible apply below_drew1 | with_reducible assumption | (with_reducible refine Keep.below (by assumption)) | (with_reducible refine bel ?_ (by assumption)) | ((with_reducible refine below_set ?_ ?_); rotate_left; (focus (first | assumption | omega | (simp; done) | (simp; omega))))))⟩
set_option maxHeartbeats 1000000 in
theorem holdsD4 (x y u v a b : Int) (w : World) : Calls Try.prog 29 #[.agg #[.int .i64 x, .int .i64 y, .int .i64 u, .int .i64 v], .int .i64 a, .int .i64 b] w fun e w' => e = .returned (.bool (holdsF ⟨x, y, u, v⟩ a b)) ∧ Below w.heap.size w w' := by
  cases h : rightB x y u v with
  | false =>
    go_enter Try.func29, Try.ntmps29
    go_wp2_with (go_at_call 27; refine (rightD4 _ _ _ _ _).mono ?_; rintro e w1 ⟨rfl, hb⟩; (try replace hb := undrew hb); obtain ⟨hc, hf⟩ := ch hb; have hz := hb.size; (try simp only [World.size_alloc, World.size_setCell, World.size_drew] at hz); have zw0 : w.heap.size < w1.heap.size := (by omega))
    go_ret
    exact ⟨ret_bool (by simp [holdsF, R4.right, h]), by (repeat (first | with_reducible exact Below.refl _ _ | with_reducible apply below_alloc | with_reducible apply below_drew1 | with_reducible assumption | (with_reducible refine Keep.below (by assumption)) | (with_reducible refine bel ?_ (by assumption)) | ((with_reducible refine below_set ?_ ?_); rotate_left; (focus (first | assumption | omega | (simp; done) | (simp; omega))))))⟩
  | true =>
    obtain ⟨a1, a2, a3, a4, a5, a6, a7, a8⟩ := right_bd h
    have Hw : Hid (holdsF ⟨x, y, u, v⟩ a b = true ↔ (x ≤ a ∧ a < x + u ∧ y ≤ b ∧ b < y + v)) := Lib.hid (by simp [holdsF, R4.right, h, sholdsB]; omega)
    go_enter Try.func29, Try.ntmps29
    go_wp2_with (go_at_call 27; refine (rightD4 _ _ _ _ _).mono ?_; rintro e w1 ⟨rfl, hb⟩; (try replace hb := undrew hb); obtain ⟨hc, hf⟩ := ch hb; have hz := hb.size; (try simp only [World.size_alloc, World.size_setCell, World.size_drew] at hz); have zw0 : w.heap.size < w1.heap.size := (by omega))
    all_goals (go_ret; exact ⟨ret_bool (by rw [Hw.out]; simp [*] <;> omega), by (repeat (first | with_reducible exact Below.refl _ _ | with_reducible apply below_alloc | with_reducible apply below_drew1 | with_reducible assumption | (with_reducible refine Keep.below (by assumption)) | (with_reducible refine bel ?_ (by assumption)) | ((with_reducible refine below_set ?_ ?_); rotate_left; (focus (first | assumption | omega | (simp; done) | (simp; omega))))))⟩)
set_option maxHeartbeats 1000000 in
theorem refR4 (x y u v : Int) (w : World) : Calls Try.prog 24 #[.agg #[.int .i64 x, .int .i64 y, .int .i64 u, .int .i64 v]] w fun e w' => e = .returned (.agg #[.int .i64 x, .int .i64 y, .int .i64 u, .int .i64 v]) ∧ Below w.heap.size w w' := by
  go_enter Try.func24, Try.ntmps24
  go_wp2
  exact bodyPost_ret (v := .agg #[.int .i64 x, .int .i64 y, .int .i64 u, .int .i64 v]) (by simp [results, Try.results24, go_sem, *]) rfl ⟨rfl, by (repeat (first | with_reducible exact Below.refl _ _ | with_reducible apply below_alloc | with_reducible apply below_drew1 | with_reducible assumption | (with_reducible refine Keep.below (by assumption)) | (with_reducible refine bel ?_ (by assumption)) | ((with_reducible refine below_set ?_ ?_); rotate_left; (focus (first | assumption | omega | (simp; done) | (simp; omega))))))⟩
def insetF (r : R4) (n : Int) : R4 × Int := if (r.right && inB n 4294967296) = true then (if rightB (r.x + n) (r.y + n) (max (r.w - 2 * n) 0) (max (r.h - 2 * n) 0) = true then (⟨r.x + n, r.y + n, max (r.w - 2 * n) 0, max (r.h - 2 * n) 0⟩, 0) else (.zero, 30)) else (.zero, 1)
theorem inB_bd {n : Int} (h : inB n 4294967296 = true) : -4294967296 ≤ n ∧ n ≤ 4294967296 := by
  simpa [inB] using h
set_option maxHeartbeats 1000000 in
theorem insetD4 (x y u v n : Int) (w : World) : Calls Try.prog 23 #[.agg #[.int .i64 x, .int .i64 y, .int .i64 u, .int .i64 v], .int .i64 n] w fun e w' => e = .returned (.tuple #[(insetF ⟨x, y, u, v⟩ n).1.v, .int .i64 (insetF ⟨x, y, u, v⟩ n).2]) ∧ Below w.heap.size w w' := by
  cases h : rightB x y u v with
  | false =>
    go_enter Try.func23, Try.ntmps23
    go_wp2_with (go_at_call 27; refine (rightD4 _ _ _ _ _).mono ?_; rintro e w1 ⟨rfl, hb⟩; (try replace hb := undrew hb); obtain ⟨hc, hf⟩ := ch hb; have hz := hb.size; (try simp only [World.size_alloc, World.size_setCell, World.size_drew] at hz); have zw0 : w.heap.size < w1.heap.size := (by omega); have zw1 : w.heap.size + 1 < w1.heap.size := (by omega))
    exact bodyPost_ret (v := .tuple #[.agg #[.int .i64 0, .int .i64 0, .int .i64 0, .int .i64 0], .int .i64 1]) (by simp [results, Try.results23, go_sem, *]) rfl ⟨by simp [insetF, R4.right, h, R4.zero], by (repeat (first | with_reducible exact Below.refl _ _ | with_reducible apply below_alloc | with_reducible apply below_drew1 | with_reducible assumption | (with_reducible refine Keep.below (by assumption)) | (with_reducible refine bel ?_ (by assumption)) | ((with_reducible refine below_set ?_ ?_); rotate_left; (focus (first | assumption | omega | (simp; done) | (simp; omega))))))⟩
  | true =>
    obtain ⟨a1, a2, a3, a4, a5, a6, a7, a8⟩ := right_bd h
    cases h' : inB n 4294967296 with
    | false =>
      go_enter Try.func23, Try.ntmps23
      go_wp2_with (first | (go_at_call 27; refine (rightD4 _ _ _ _ _).mono ?_; rintro e w1 ⟨rfl, hb⟩; (try replace hb := undrew hb); obtain ⟨hc, hf⟩ := ch hb; have hz := hb.size; (try simp only [World.size_alloc, World.size_setCell, World.size_drew] at hz); have zw0 : w.heap.size < w1.heap.size := (by omega); have zw1 : w.heap.size + 1 < w1.heap.size := (by omega)) | (go_at_call 56; refine (inD _ _).mono ?_; rintro e w1 ⟨rfl, hb⟩; (try replace hb := undrew hb); obtain ⟨hc, hf⟩ := ch hb; have hz := hb.size; (try simp only [World.size_alloc, World.size_setCell, World.size_drew] at hz); have zw0 : w.heap.size < w1.heap.size := (by omega); have zw1 : w.heap.size + 1 < w1.heap.size := (by omega)))
      exact bodyPost_ret (v := .tuple #[.agg #[.int .i64 0, .int .i64 0, .int .i64 0, .int .i64 0], .int .i64 1]) (by simp [results, Try.results23, go_sem, *]) rfl ⟨by simp [insetF, R4.right, h, h', R4.zero], by (repeat (first | with_reducible exact Below.refl _ _ | with_reducible apply below_alloc | with_reducible apply below_drew1 | with_reducible assumption | (with_reducible refine Keep.below (by assumption)) | (with_reducible refine bel ?_ (by assumption)) | ((with_reducible refine below_set ?_ ?_); rotate_left; (focus (first | assumption | omega | (simp; done) | (simp; omega))))))⟩
    | true =>
      obtain ⟨n1, n2⟩ := inB_bd h'
      cases e : rightB (x + n) (y + n) (max (u - 2 * n) 0) (max (v - 2 * n) 0) with
      | true =>
        go_enter Try.func23, Try.ntmps23
        go_wp2_with (first | (go_at_call 27; refine (rightD4 _ _ _ _ _).mono ?_; rintro e w1 ⟨rfl, hb⟩; (try replace hb := undrew hb); obtain ⟨hc, hf⟩ := ch hb; have hz := hb.size; (try simp only [World.size_alloc, World.size_setCell, World.size_drew] at hz); have zw0 : w.heap.size < w1.heap.size := (by omega); have zw1 : w.heap.size + 1 < w1.heap.size := (by omega)) | (go_at_call 56; refine (inD _ _).mono ?_; rintro e w1 ⟨rfl, hb⟩; (try replace hb := undrew hb); obtain ⟨hc, hf⟩ := ch hb; have hz := hb.size; (try simp only [World.size_alloc, World.size_setCell, World.size_drew] at hz); have zw0 : w.heap.size < w1.heap.size := (by omega); have zw1 : w.heap.size + 1 < w1.heap.size := (by omega)) | (go_at_call 54; refine (fitD_yes _ _ _ _ _ e).mono ?_; rintro e w1 ⟨rfl, hb⟩; (try replace hb := undrew hb); obtain ⟨hc, hf⟩ := ch hb; have hz := hb.size; (try simp only [World.size_alloc, World.size_setCell, World.size_drew] at hz); have zw0 : w.heap.size < w1.heap.size := (by omega); have zw1 : w.heap.size + 1 < w1.heap.size := (by omega)))
        exact bodyPost_ret (v := .tuple #[.agg #[.int .i64 (x + n), .int .i64 (y + n), .int .i64 (max (u - 2 * n) 0), .int .i64 (max (v - 2 * n) 0)], .int .i64 0]) (by simp [results, Try.results23, go_sem, *]) rfl ⟨by simp [insetF, R4.right, h, h', e], by (repeat (first | with_reducible exact Below.refl _ _ | with_reducible apply below_alloc | with_reducible apply below_drew1 | with_reducible assumption | (with_reducible refine Keep.below (by assumption)) | (with_reducible refine bel ?_ (by assumption)) | ((with_reducible refine below_set ?_ ?_); rotate_left; (focus (first | assumption | omega | (simp; done) | (simp; omega))))))⟩
      | false =>
        go_enter Try.func23, Try.ntmps23
        go_wp2_with (first | (go_at_call 27; refine (rightD4 _ _ _ _ _).mono ?_; rintro e w1 ⟨rfl, hb⟩; (try replace hb := undrew hb); obtain ⟨hc, hf⟩ := ch hb; have hz := hb.size; (try simp only [World.size_alloc, World.size_setCell, World.size_drew] at hz); have zw0 : w.heap.size < w1.heap.size := (by omega); have zw1 : w.heap.size + 1 < w1.heap.size := (by omega)) | (go_at_call 56; refine (inD _ _).mono ?_; rintro e w1 ⟨rfl, hb⟩; (try replace hb := undrew hb); obtain ⟨hc, hf⟩ := ch hb; have hz := hb.size; (try simp only [World.size_alloc, World.size_setCell, World.size_drew] at hz); have zw0 : w.heap.size < w1.heap.size := (by omega); have zw1 : w.heap.size + 1 < w1.heap.size := (by omega)) | (go_at_call 54; refine (fitD_no _ _ _ _ _ e).mono ?_; rintro e w1 ⟨rfl, hb⟩; (try replace hb := undrew hb); obtain ⟨hc, hf⟩ := ch hb; have hz := hb.size; (try simp only [World.size_alloc, World.size_setCell, World.size_drew] at hz); have zw0 : w.heap.size < w1.heap.size := (by omega); have zw1 : w.heap.size + 1 < w1.heap.size := (by omega)))
        exact bodyPost_ret (v := .tuple #[.agg #[.int .i64 0, .int .i64 0, .int .i64 0, .int .i64 0], .int .i64 30]) (by simp [results, Try.results23, go_sem, *]) rfl ⟨by simp [insetF, R4.right, h, h', e, R4.zero], by (repeat (first | with_reducible exact Below.refl _ _ | with_reducible apply below_alloc | with_reducible apply below_drew1 | with_reducible assumption | (with_reducible refine Keep.below (by assumption)) | (with_reducible refine bel ?_ (by assumption)) | ((with_reducible refine below_set ?_ ?_); rotate_left; (focus (first | assumption | omega | (simp; done) | (simp; omega))))))⟩
theorem rectIn (n : Int) : PInset.rect_in.f n 4294967296 = some (inB n 4294967296) := refIn n
theorem rectRight (x y u v : Int) : PInset.rect_Right.f x y u v = some (rightB x y u v) := refRight x y u v
abbrev t5 (p : R4 × Int) : Int × Int × Int × Int × Int := (p.1.x, p.1.y, p.1.w, p.1.h, p.2)
theorem rectInset (r : R4) (n : Int) : PInset.rect_Inset.f r.x r.y r.w r.h n = some (t5 (insetF r n)) := by
  unfold PInset.rect_Inset.f
  simp only [rectRight, rectIn, Option.bind_some]
  cases h : rightB r.x r.y r.w r.h with
  | false => simp [insetF, R4.right, h, R4.zero, t5]
  | true =>
    cases h' : inB n 4294967296 with
    | false => simp [insetF, R4.right, h, h', R4.zero, t5]
    | true =>
      have hb := right_bd h
      have hn := inB_bd h'
      simp only [if_true, PInset.rect_fit.f, rectRight, Option.bind_some, mx_max]
      rw [w_in (n := r.x + n) (by omega) (by omega), w_in (n := r.y + n) (by omega) (by omega), w_in (n := 2 * n) (by omega) (by omega), w_in (n := r.w - 2 * n) (by omega) (by omega), w_in (n := r.h - 2 * n) (by omega) (by omega)]
      simp only [insetF, R4.right, h, h', Bool.and_self, if_true]
      split <;> rfl
theorem insetR4 (x y u v n : Int) (w : World) : Calls Try.prog 22 #[.agg #[.int .i64 x, .int .i64 y, .int .i64 u, .int .i64 v], .int .i64 n] w fun e w' => e = .returned (.tuple #[(insetF ⟨x, y, u, v⟩ n).1.v, .int .i64 (insetF ⟨x, y, u, v⟩ n).2]) ∧ Below w.heap.size w w' :=
  PInset.rect_Inset.calls _ _ _ _ _ _ _ _ _ _ w (rectInset ⟨x, y, u, v⟩ n)
theorem within_iff' (x y u v x' y' u' v' : Int) (a : rightB x y u v = true) (b : rightB x' y' u' v' = true) (c : emptyB x y u v = false) : withinF ⟨x, y, u, v⟩ ⟨x', y', u', v'⟩ = true ↔ (x' ≤ x ∧ y' ≤ y ∧ x + u ≤ x' + u' ∧ y + v ≤ y' + v') := by
  simp [withinF, R4.right, a, b, c, swithinB]
  omega
set_option maxHeartbeats 2000000 in
theorem withinD4 (x y u v x' y' u' v' : Int) (w : World) : Calls Try.prog 30 #[.agg #[.int .i64 x, .int .i64 y, .int .i64 u, .int .i64 v], .agg #[.int .i64 x', .int .i64 y', .int .i64 u', .int .i64 v']] w fun e w' => e = .returned (.bool (withinF ⟨x, y, u, v⟩ ⟨x', y', u', v'⟩)) ∧ Below w.heap.size w w' := by
  cases a : rightB x y u v with
  | false =>
    go_enter Try.func30, Try.ntmps30
    go_wp2_with (go_at_call 27; refine (rightD4 _ _ _ _ _).mono ?_; rintro e w1 ⟨rfl, hb⟩; (try replace hb := undrew hb); obtain ⟨hc, hf⟩ := ch hb; have hz := hb.size; (try simp only [World.size_alloc, World.size_setCell, World.size_drew] at hz); have zw0 : w.heap.size < w1.heap.size := (by omega); have zw1 : w.heap.size + 1 < w1.heap.size := (by omega))
    go_ret
    exact ⟨ret_bool (by simp [withinF, R4.right, a]), by (repeat (first | with_reducible exact Below.refl _ _ | with_reducible apply below_alloc | with_reducible apply below_drew1 | with_reducible assumption | (with_reducible refine Keep.below (by assumption)) | (with_reducible refine bel ?_ (by assumption)) | ((with_reducible refine below_set ?_ ?_); rotate_left; (focus (first | assumption | omega | (simp; done) | (simp; omega))))))⟩
  | true =>
    cases b : rightB x' y' u' v' with
    | false =>
      go_enter Try.func30, Try.ntmps30
      go_wp2_with (go_at_call 27; refine (rightD4 _ _ _ _ _).mono ?_; rintro e w1 ⟨rfl, hb⟩; (try replace hb := undrew hb); obtain ⟨hc, hf⟩ := ch hb; have hz := hb.size; (try simp only [World.size_alloc, World.size_setCell, World.size_drew] at hz); have zw0 : w.heap.size < w1.heap.size := (by omega); have zw1 : w.heap.size + 1 < w1.heap.size := (by omega))
      go_ret
      exact ⟨ret_bool (by simp [withinF, R4.right, a, b]), by (repeat (first | with_reducible exact Below.refl _ _ | with_reducible apply below_alloc | with_reducible apply below_drew1 | with_reducible assumption | (with_reducible refine Keep.below (by assumption)) | (with_reducible refine bel ?_ (by assumption)) | ((with_reducible refine below_set ?_ ?_); rotate_left; (focus (first | assumption | omega | (simp; done) | (simp; omega))))))⟩
    | true =>
      obtain ⟨a1, a2, a3, a4, a5, a6, a7, a8⟩ := right_bd a
      obtain ⟨b1, b2, b3, b4, b5, b6, b7, b8⟩ := right_bd b
      cases c : emptyB x y u v with
      | true =>
        go_enter Try.func30, Try.ntmps30
        go_wp2_with (first | (go_at_call 27; refine (rightD4 _ _ _ _ _).mono ?_; rintro e w1 ⟨rfl, hb⟩; (try replace hb := undrew hb); obtain ⟨hc, hf⟩ := ch hb; have hz := hb.size; (try simp only [World.size_alloc, World.size_setCell, World.size_drew] at hz); have zw0 : w.heap.size < w1.heap.size := (by omega); have zw1 : w.heap.size + 1 < w1.heap.size := (by omega)) | (go_at_call 28; refine (emptyD4 _ _ _ _ _).mono ?_; rintro e w1 ⟨rfl, hb⟩; (try replace hb := undrew hb); obtain ⟨hc, hf⟩ := ch hb; have hz := hb.size; (try simp only [World.size_alloc, World.size_setCell, World.size_drew] at hz); have zw0 : w.heap.size < w1.heap.size := (by omega); have zw1 : w.heap.size + 1 < w1.heap.size := (by omega)))
        go_ret
        exact ⟨ret_bool (by simp [withinF, R4.right, a, b, c]), by (repeat (first | with_reducible exact Below.refl _ _ | with_reducible apply below_alloc | with_reducible apply below_drew1 | with_reducible assumption | (with_reducible refine Keep.below (by assumption)) | (with_reducible refine bel ?_ (by assumption)) | ((with_reducible refine below_set ?_ ?_); rotate_left; (focus (first | assumption | omega | (simp; done) | (simp; omega))))))⟩
      | false =>
        have hw := within_iff' x y u v x' y' u' v' a b c
        have Hw := Lib.hid hw
        clear hw
        go_enter Try.func30, Try.ntmps30
        go_wp2_with (first | (go_at_call 27; refine (rightD4 _ _ _ _ _).mono ?_; rintro e w1 ⟨rfl, hb⟩; (try replace hb := undrew hb); obtain ⟨hc, hf⟩ := ch hb; have hz := hb.size; (try simp only [World.size_alloc, World.size_setCell, World.size_drew] at hz); have zw0 : w.heap.size < w1.heap.size := (by omega); have zw1 : w.heap.size + 1 < w1.heap.size := (by omega)) | (go_at_call 28; refine (emptyD4 _ _ _ _ _).mono ?_; rintro e w1 ⟨rfl, hb⟩; (try replace hb := undrew hb); obtain ⟨hc, hf⟩ := ch hb; have hz := hb.size; (try simp only [World.size_alloc, World.size_setCell, World.size_drew] at hz); have zw0 : w.heap.size < w1.heap.size := (by omega); have zw1 : w.heap.size + 1 < w1.heap.size := (by omega)))
        all_goals (go_ret; exact ⟨ret_bool (by rw [Hw.out]; simp [*] <;> omega), by (repeat (first | with_reducible exact Below.refl _ _ | with_reducible apply below_alloc | with_reducible apply below_drew1 | with_reducible assumption | (with_reducible refine Keep.below (by assumption)) | (with_reducible refine bel ?_ (by assumption)) | ((with_reducible refine below_set ?_ ?_); rotate_left; (focus (first | assumption | omega | (simp; done) | (simp; omega))))))⟩)
end Go.Proofs.Ytjekoaodgdodjaa
