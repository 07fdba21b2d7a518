/- Walks of rect.Join, Own, num, knows. -/
import Derived.Test.YtjekoaodgdodjaaD
set_option linter.unusedVariables false
set_option linter.unusedSimpArgs false
namespace Go.Proofs.Ytjekoaodgdodjaa
open Go.RowKit

def R4.empty (r : R4) : Bool := emptyB r.x r.y r.w r.h
def hullF (p q : R4) : R4 := ⟨min p.x q.x, min p.y q.y, max (p.x + p.w) (q.x + q.w) - min p.x q.x, max (p.y + p.h) (q.y + q.h) - min p.y q.y⟩
def joinF (p q : R4) : R4 × Int :=
  if p.right = true ∧ q.right = true then (if p.empty = true then (q, 0) else if q.empty = true then (p, 0) else if (hullF p q).right = true then (hullF p q, 0) else (.zero, 30)) else (.zero, 1)

set_option maxHeartbeats 1000000 in
theorem join_any (x y u v x' y' u' v' : Int) (w : World) :
    Calls Try.prog 13 #[.agg #[.int .i64 x, .int .i64 y, .int .i64 u, .int .i64 v], .agg #[.int .i64 x', .int .i64 y', .int .i64 u', .int .i64 v']] w fun e w' =>
      e = .returned (.tuple #[(joinF ⟨x, y, u, v⟩ ⟨x', y', u', v'⟩).1.v, .int .i64 (joinF ⟨x, y, u, v⟩ ⟨x', y', u', v'⟩).2]) ∧ Below w.heap.size w w' := by
  cases a : rightB x y u v with
  | false =>
    go_enter Try.func13, Try.ntmps13
    go_wp2_with (go_at_call 8; refine (right_any _ _ _ _ _).mono ?_; rintro e w1 ⟨rfl, hb⟩; (try replace hb := undrew hb); obtain ⟨hc, hf⟩ := ch hb; have hz := hb.size; (try simp only [World.size_alloc, World.size_setCell, World.size_drew] at hz); have zw0 : w.heap.size < w1.heap.size := (by omega); have zw1 : w.heap.size + 1 < w1.heap.size := (by omega); have zw2 : w.heap.size + 1 + 1 < w1.heap.size := (by omega))
    exact bodyPost_ret (v := .tuple #[.agg #[.int .i64 0, .int .i64 0, .int .i64 0, .int .i64 0], .int .i64 1]) (by simp [results, Try.results13, go_sem, *]) rfl ⟨by simp [joinF, R4.right, a, R4.zero], by (repeat (first | with_reducible exact Below.refl _ _ | with_reducible apply below_alloc | with_reducible apply below_drew1 | with_reducible assumption | (with_reducible refine Keep.below (by assumption)) | (with_reducible refine bel ?_ (by assumption)) | ((with_reducible refine below_set ?_ ?_); rotate_left; (focus (first | assumption | omega | (simp; done) | (simp; omega))))))⟩
  | true =>
    cases b : rightB x' y' u' v' with
    | false =>
      go_enter Try.func13, Try.ntmps13
      go_wp2_with (go_at_call 8; refine (right_any _ _ _ _ _).mono ?_; rintro e w1 ⟨rfl, hb⟩; (try replace hb := undrew hb); obtain ⟨hc, hf⟩ := ch hb; have hz := hb.size; (try simp only [World.size_alloc, World.size_setCell, World.size_drew] at hz); have zw0 : w.heap.size < w1.heap.size := (by omega); have zw1 : w.heap.size + 1 < w1.heap.size := (by omega); have zw2 : w.heap.size + 1 + 1 < w1.heap.size := (by omega))
      exact bodyPost_ret (v := .tuple #[.agg #[.int .i64 0, .int .i64 0, .int .i64 0, .int .i64 0], .int .i64 1]) (by simp [results, Try.results13, go_sem, *]) rfl ⟨by simp [joinF, R4.right, a, b, R4.zero], by (repeat (first | with_reducible exact Below.refl _ _ | with_reducible apply below_alloc | with_reducible apply below_drew1 | with_reducible assumption | (with_reducible refine Keep.below (by assumption)) | (with_reducible refine bel ?_ (by assumption)) | ((with_reducible refine below_set ?_ ?_); rotate_left; (focus (first | assumption | omega | (simp; done) | (simp; omega))))))⟩
    | true =>
      obtain ⟨a1, a2, a3, a4, a5, a6, a7, a8⟩ := right_bd a
      obtain ⟨b1, b2, b3, b4, b5, b6, b7, b8⟩ := right_bd b
      cases c : emptyB x y u v with
      | true =>
        go_enter Try.func13, Try.ntmps13
        go_wp2_with (first | (go_at_call 8; refine (right_any _ _ _ _ _).mono ?_; rintro e w1 ⟨rfl, hb⟩; (try replace hb := undrew hb); obtain ⟨hc, hf⟩ := ch hb; have hz := hb.size; (try simp only [World.size_alloc, World.size_setCell, World.size_drew] at hz); have zw0 : w.heap.size < w1.heap.size := (by omega); have zw1 : w.heap.size + 1 < w1.heap.size := (by omega); have zw2 : w.heap.size + 1 + 1 < w1.heap.size := (by omega)) | (go_at_call 12; refine (empty_any _ _ _ _ _).mono ?_; rintro e w1 ⟨rfl, hb⟩; (try replace hb := undrew hb); obtain ⟨hc, hf⟩ := ch hb; have hz := hb.size; (try simp only [World.size_alloc, World.size_setCell, World.size_drew] at hz); have zw0 : w.heap.size < w1.heap.size := (by omega); have zw1 : w.heap.size + 1 < w1.heap.size := (by omega); have zw2 : w.heap.size + 1 + 1 < w1.heap.size := (by omega)))
        exact bodyPost_ret (v := .tuple #[.agg #[.int .i64 x', .int .i64 y', .int .i64 u', .int .i64 v'], .int .i64 0]) (by simp [results, Try.results13, go_sem, *]) rfl ⟨by simp [joinF, R4.right, R4.empty, a, b, c], by (repeat (first | with_reducible exact Below.refl _ _ | with_reducible apply below_alloc | with_reducible apply below_drew1 | with_reducible assumption | (with_reducible refine Keep.below (by assumption)) | (with_reducible refine bel ?_ (by assumption)) | ((with_reducible refine below_set ?_ ?_); rotate_left; (focus (first | assumption | omega | (simp; done) | (simp; omega))))))⟩
      | false =>
        cases d : emptyB x' y' u' v' with
        | true =>
          go_enter Try.func13, Try.ntmps13
          go_wp2_with (first | (go_at_call 8; refine (right_any _ _ _ _ _).mono ?_; rintro e w1 ⟨rfl, hb⟩; (try replace hb := undrew hb); obtain ⟨hc, hf⟩ := ch hb; have hz := hb.size; (try simp only [World.size_alloc, World.size_setCell, World.size_drew] at hz); have zw0 : w.heap.size < w1.heap.size := (by omega); have zw1 : w.heap.size + 1 < w1.heap.size := (by omega); have zw2 : w.heap.size + 1 + 1 < w1.heap.size := (by omega)) | (go_at_call 12; refine (empty_any _ _ _ _ _).mono ?_; rintro e w1 ⟨rfl, hb⟩; (try replace hb := undrew hb); obtain ⟨hc, hf⟩ := ch hb; have hz := hb.size; (try simp only [World.size_alloc, World.size_setCell, World.size_drew] at hz); have zw0 : w.heap.size < w1.heap.size := (by omega); have zw1 : w.heap.size + 1 < w1.heap.size := (by omega); have zw2 : w.heap.size + 1 + 1 < w1.heap.size := (by omega)))
          exact bodyPost_ret (v := .tuple #[.agg #[.int .i64 x, .int .i64 y, .int .i64 u, .int .i64 v], .int .i64 0]) (by simp [results, Try.results13, go_sem, *]) rfl ⟨by simp [joinF, R4.right, R4.empty, a, b, c, d], by (repeat (first | with_reducible exact Below.refl _ _ | with_reducible apply below_alloc | with_reducible apply below_drew1 | with_reducible assumption | (with_reducible refine Keep.below (by assumption)) | (with_reducible refine bel ?_ (by assumption)) | ((with_reducible refine below_set ?_ ?_); rotate_left; (focus (first | assumption | omega | (simp; done) | (simp; omega))))))⟩
        | false =>
          cases e : rightB (min x x') (min y y') (max (x + u) (x' + u') - min x x') (max (y + v) (y' + v') - min y y') with
          | true =>
            go_enter Try.func13, Try.ntmps13
            go_wp2_with (first | (go_at_call 8; refine (right_any _ _ _ _ _).mono ?_; rintro e w1 ⟨rfl, hb⟩; (try replace hb := undrew hb); obtain ⟨hc, hf⟩ := ch hb; have hz := hb.size; (try simp only [World.size_alloc, World.size_setCell, World.size_drew] at hz); have zw0 : w.heap.size < w1.heap.size := (by omega); have zw1 : w.heap.size + 1 < w1.heap.size := (by omega); have zw2 : w.heap.size + 1 + 1 < w1.heap.size := (by omega)) | (go_at_call 12; refine (empty_any _ _ _ _ _).mono ?_; rintro e w1 ⟨rfl, hb⟩; (try replace hb := undrew hb); obtain ⟨hc, hf⟩ := ch hb; have hz := hb.size; (try simp only [World.size_alloc, World.size_setCell, World.size_drew] at hz); have zw0 : w.heap.size < w1.heap.size := (by omega); have zw1 : w.heap.size + 1 < w1.heap.size := (by omega); have zw2 : w.heap.size + 1 + 1 < w1.heap.size := (by omega)))
            obtain ⟨ws, rfl⟩ : ∃ ws, ws = w1 := ⟨_, rfl⟩
            have hK : Keep w w ws 2 ws := Keep.start (by (repeat (first | with_reducible exact Below.refl _ _ | with_reducible apply below_alloc | with_reducible apply below_drew1 | with_reducible assumption | (with_reducible refine Keep.below (by assumption)) | (with_reducible refine bel ?_ (by assumption)) | ((with_reducible refine below_set ?_ ?_); rotate_left; (focus (first | assumption | omega | (simp; done) | (simp; omega))))))) (by first | assumption | omega | (simp; done) | (simp; omega))
            refine wp_region_noPanic ?_
            refine wp_region_held_drew (S := fun W_ => (∀ b_ o_, b_ < w.heap.size + 2 → W_.cell? ⟨b_, o_, none⟩ = ws.cell? ⟨b_, o_, none⟩) ∧ w.heap.size + 2 ≤ W_.heap.size ∧ Below w.heap.size w W_) (by kernel_rfl) (show Keep w w ws 2 _ by (repeat (first | with_reducible assumption | with_reducible apply Keep.alloc | with_reducible apply Keep.drew | ((with_reducible refine Keep.set ?_ ?_ ?_); rotate_left; (focus (first | assumption | omega | (simp; done) | (simp; omega))); (focus (first | assumption | omega | (simp; done) | (simp; omega))))))) (fun hHeld => ?_)
            refine wpAnyH_take (i := 0) (oi := { dst := some 24, op := Go.Op.load 24 (Go.Operand.tmp 2), type := 24, pos := "rect.go:97", after := #[], guard := none }) (v := ?_) rfl (by kernel_rfl) (by kernel_rfl) (by kernel_rfl) (fun _ _ _ h => h) (Or.inl ⟨by rfl, ?_⟩) hHeld ?_
            rotate_left
            · intro W_ hSw
              obtain ⟨hS1, hS2, hS3⟩ := hSw
              go_simp
              try with_reducible rfl
            (try simp only [Act.put, List.setIfInBounds_toArray, List.set_cons_zero, List.set_cons_succ])
            refine wpAnyH_take (i := 2) (oi := { dst := some 26, op := Go.Op.load 24 (Go.Operand.tmp 3), type := 24, pos := "rect.go:97", after := #[], guard := none }) (v := ?_) rfl (by kernel_rfl) (by kernel_rfl) (by kernel_rfl) (fun _ _ _ h => h) (Or.inl ⟨by rfl, ?_⟩) hHeld ?_
            rotate_left
            · intro W_ hSw
              obtain ⟨hS1, hS2, hS3⟩ := hSw
              go_simp
              try with_reducible rfl
            (try simp only [Act.put, List.setIfInBounds_toArray, List.set_cons_zero, List.set_cons_succ])
            refine wpAnyH_take (i := 5) (oi := { dst := some 29, op := Go.Op.load 24 (Go.Operand.tmp 2), type := 24, pos := "rect.go:97", after := #[], guard := none }) (v := ?_) rfl (by kernel_rfl) (by kernel_rfl) (by kernel_rfl) (fun _ _ _ h => h) (Or.inl ⟨by rfl, ?_⟩) hHeld ?_
            rotate_left
            · intro W_ hSw
              obtain ⟨hS1, hS2, hS3⟩ := hSw
              go_simp
              try with_reducible rfl
            (try simp only [Act.put, List.setIfInBounds_toArray, List.set_cons_zero, List.set_cons_succ])
            refine wpAnyH_take (i := 7) (oi := { dst := some 31, op := Go.Op.load 24 (Go.Operand.tmp 3), type := 24, pos := "rect.go:97", after := #[], guard := none }) (v := ?_) rfl (by kernel_rfl) (by kernel_rfl) (by kernel_rfl) (fun _ _ _ h => h) (Or.inl ⟨by rfl, ?_⟩) hHeld ?_
            rotate_left
            · intro W_ hSw
              obtain ⟨hS1, hS2, hS3⟩ := hSw
              go_simp
              try with_reducible rfl
            (try simp only [Act.put, List.setIfInBounds_toArray, List.set_cons_zero, List.set_cons_succ])
            refine wpAnyH_ready (rs := [1]) (by kernel_rfl) (by simp) ?_
            refine AllReadyH.cons (o := { dst := some 25, op := Go.Op.call { callee := Go.Callee.value (Go.Operand.func 40), args := #[Go.Operand.tmp 24], argTypes := #[24] }, type := 73, pos := "rect.go:97", after := #[{ on := 0, ground := Go.Ground.data }], guard := none }) rfl (fun KR hKR => ?_) ?_
            have hS := hHeld
            clear hHeld
            obtain ⟨hS1, hS2, hS3⟩ := hS
            go_simp
            ((try rw [if_pos (show IntKind.i64.wrap 0 = 0 from rfl)]); go_at_call 40; refine (wide_any _ _ _ _ _ (by omega) (by omega) (by omega) (by omega)).mono ?_; rintro e wk1 ⟨rfl, hb⟩; have hK := Keep.next (by (repeat (first | with_reducible assumption | with_reducible apply Keep.alloc | with_reducible apply Keep.drew | ((with_reducible refine Keep.set ?_ ?_ ?_); rotate_left; (focus (first | assumption | omega | (simp; done) | (simp; omega))); (focus (first | assumption | omega | (simp; done) | (simp; omega))))))) hb; (try replace hb := undrew hb); obtain ⟨hc, hf⟩ := ch hb; have hz := hb.size; clear hb; (try simp only [World.size_alloc, World.size_setCell, World.size_drew] at hz); have zw0 : w.heap.size < wk1.heap.size := (by omega); have zw1 : w.heap.size + 1 < wk1.heap.size := (by omega); have zw0 : w.heap.size < wk1.heap.size := (by omega); have zw1 : w.heap.size + 1 < wk1.heap.size := (by omega); have zw2 : w.heap.size + 1 + 1 < wk1.heap.size := (by omega))
            refine hKR.out _ _ (by exact (show Keep w w ws 2 _ by (repeat (first | with_reducible assumption | with_reducible apply Keep.alloc | with_reducible apply Keep.drew | ((with_reducible refine Keep.set ?_ ?_ ?_); rotate_left; (focus (first | assumption | omega | (simp; done) | (simp; omega))); (focus (first | assumption | omega | (simp; done) | (simp; omega)))))))) (fun hHeld => ?_)
            clear hKR KR
            (try simp only [Act.put, List.setIfInBounds_toArray, List.set_cons_zero, List.set_cons_succ])
            rotate_left
            · exact AllReadyH.nil
            refine wpAnyH_ready (rs := [3]) (by kernel_rfl) (by simp) ?_
            refine AllReadyH.cons (o := { dst := some 27, op := Go.Op.call { callee := Go.Callee.value (Go.Operand.func 40), args := #[Go.Operand.tmp 26], argTypes := #[24] }, type := 73, pos := "rect.go:97", after := #[{ on := 2, ground := Go.Ground.data }, { on := 1, ground := Go.Ground.chain }], guard := none }) rfl (fun KR hKR => ?_) ?_
            have hS := hHeld
            clear hHeld
            obtain ⟨hS1, hS2, hS3⟩ := hS
            go_simp
            ((try rw [if_pos (show IntKind.i64.wrap 0 = 0 from rfl)]); go_at_call 40; refine (wide_any _ _ _ _ _ (by omega) (by omega) (by omega) (by omega)).mono ?_; rintro e wk2 ⟨rfl, hb⟩; have hK := Keep.next (by (repeat (first | with_reducible assumption | with_reducible apply Keep.alloc | with_reducible apply Keep.drew | ((with_reducible refine Keep.set ?_ ?_ ?_); rotate_left; (focus (first | assumption | omega | (simp; done) | (simp; omega))); (focus (first | assumption | omega | (simp; done) | (simp; omega))))))) hb; (try replace hb := undrew hb); obtain ⟨hc, hf⟩ := ch hb; have hz := hb.size; clear hb; (try simp only [World.size_alloc, World.size_setCell, World.size_drew] at hz); have zw0 : w.heap.size < wk2.heap.size := (by omega); have zw1 : w.heap.size + 1 < wk2.heap.size := (by omega); have zw0 : w.heap.size < wk2.heap.size := (by omega); have zw1 : w.heap.size + 1 < wk2.heap.size := (by omega); have zw2 : w.heap.size + 1 + 1 < wk2.heap.size := (by omega))
            refine hKR.out _ _ (by exact (show Keep w w ws 2 _ by (repeat (first | with_reducible assumption | with_reducible apply Keep.alloc | with_reducible apply Keep.drew | ((with_reducible refine Keep.set ?_ ?_ ?_); rotate_left; (focus (first | assumption | omega | (simp; done) | (simp; omega))); (focus (first | assumption | omega | (simp; done) | (simp; omega)))))))) (fun hHeld => ?_)
            clear hKR KR
            (try simp only [Act.put, List.setIfInBounds_toArray, List.set_cons_zero, List.set_cons_succ])
            rotate_left
            · exact AllReadyH.nil
            refine wpAnyH_ready (rs := [4]) (by kernel_rfl) (by simp) ?_
            refine AllReadyH.cons (o := { dst := some 28, op := Go.Op.call { callee := Go.Callee.value (Go.Operand.func 47), args := #[Go.Operand.tmp 25, Go.Operand.tmp 27], argTypes := #[73, 73] }, type := 73, pos := "rect.go:97", after := #[{ on := 1, ground := Go.Ground.data }, { on := 3, ground := Go.Ground.data }, { on := 3, ground := Go.Ground.chain }], guard := none }) rfl (fun KR hKR => ?_) ?_
            have hS := hHeld
            clear hHeld
            obtain ⟨hS1, hS2, hS3⟩ := hS
            go_simp
            ((try rw [if_pos (show IntKind.i64.wrap 0 = 0 from rfl)]); go_at_call 47; refine (sjoin_any _ _ _ _ _).mono ?_; rintro e wk3 ⟨rfl, hb⟩; have hK := Keep.next (by (repeat (first | with_reducible assumption | with_reducible apply Keep.alloc | with_reducible apply Keep.drew | ((with_reducible refine Keep.set ?_ ?_ ?_); rotate_left; (focus (first | assumption | omega | (simp; done) | (simp; omega))); (focus (first | assumption | omega | (simp; done) | (simp; omega))))))) hb; (try replace hb := undrew hb); obtain ⟨hc, hf⟩ := ch hb; have hz := hb.size; clear hb; (try simp only [World.size_alloc, World.size_setCell, World.size_drew] at hz); have zw0 : w.heap.size < wk3.heap.size := (by omega); have zw1 : w.heap.size + 1 < wk3.heap.size := (by omega); have zw0 : w.heap.size < wk3.heap.size := (by omega); have zw1 : w.heap.size + 1 < wk3.heap.size := (by omega); have zw2 : w.heap.size + 1 + 1 < wk3.heap.size := (by omega))
            refine hKR.out _ _ (by exact (show Keep w w ws 2 _ by (repeat (first | with_reducible assumption | with_reducible apply Keep.alloc | with_reducible apply Keep.drew | ((with_reducible refine Keep.set ?_ ?_ ?_); rotate_left; (focus (first | assumption | omega | (simp; done) | (simp; omega))); (focus (first | assumption | omega | (simp; done) | (simp; omega)))))))) (fun hHeld => ?_)
            clear hKR KR
            (try simp only [Act.put, List.setIfInBounds_toArray, List.set_cons_zero, List.set_cons_succ])
            rotate_left
            · exact AllReadyH.nil
            refine wpAnyH_ready (rs := [6]) (by kernel_rfl) (by simp) ?_
            refine AllReadyH.cons (o := { dst := some 30, op := Go.Op.call { callee := Go.Callee.value (Go.Operand.func 42), args := #[Go.Operand.tmp 29], argTypes := #[24] }, type := 73, pos := "rect.go:97", after := #[{ on := 5, ground := Go.Ground.data }, { on := 4, ground := Go.Ground.chain }], guard := none }) rfl (fun KR hKR => ?_) ?_
            have hS := hHeld
            clear hHeld
            obtain ⟨hS1, hS2, hS3⟩ := hS
            go_simp
            ((try rw [if_pos (show IntKind.i64.wrap 0 = 0 from rfl)]); go_at_call 42; refine (tall_any _ _ _ _ _ (by omega) (by omega) (by omega) (by omega)).mono ?_; rintro e wk4 ⟨rfl, hb⟩; have hK := Keep.next (by (repeat (first | with_reducible assumption | with_reducible apply Keep.alloc | with_reducible apply Keep.drew | ((with_reducible refine Keep.set ?_ ?_ ?_); rotate_left; (focus (first | assumption | omega | (simp; done) | (simp; omega))); (focus (first | assumption | omega | (simp; done) | (simp; omega))))))) hb; (try replace hb := undrew hb); obtain ⟨hc, hf⟩ := ch hb; have hz := hb.size; clear hb; (try simp only [World.size_alloc, World.size_setCell, World.size_drew] at hz); have zw0 : w.heap.size < wk4.heap.size := (by omega); have zw1 : w.heap.size + 1 < wk4.heap.size := (by omega); have zw0 : w.heap.size < wk4.heap.size := (by omega); have zw1 : w.heap.size + 1 < wk4.heap.size := (by omega); have zw2 : w.heap.size + 1 + 1 < wk4.heap.size := (by omega))
            refine hKR.out _ _ (by exact (show Keep w w ws 2 _ by (repeat (first | with_reducible assumption | with_reducible apply Keep.alloc | with_reducible apply Keep.drew | ((with_reducible refine Keep.set ?_ ?_ ?_); rotate_left; (focus (first | assumption | omega | (simp; done) | (simp; omega))); (focus (first | assumption | omega | (simp; done) | (simp; omega)))))))) (fun hHeld => ?_)
            clear hKR KR
            (try simp only [Act.put, List.setIfInBounds_toArray, List.set_cons_zero, List.set_cons_succ])
            rotate_left
            · exact AllReadyH.nil
            refine wpAnyH_ready (rs := [8]) (by kernel_rfl) (by simp) ?_
            refine AllReadyH.cons (o := { dst := some 32, op := Go.Op.call { callee := Go.Callee.value (Go.Operand.func 42), args := #[Go.Operand.tmp 31], argTypes := #[24] }, type := 73, pos := "rect.go:97", after := #[{ on := 7, ground := Go.Ground.data }, { on := 6, ground := Go.Ground.chain }], guard := none }) rfl (fun KR hKR => ?_) ?_
            have hS := hHeld
            clear hHeld
            obtain ⟨hS1, hS2, hS3⟩ := hS
            go_simp
            ((try rw [if_pos (show IntKind.i64.wrap 0 = 0 from rfl)]); go_at_call 42; refine (tall_any _ _ _ _ _ (by omega) (by omega) (by omega) (by omega)).mono ?_; rintro e wk5 ⟨rfl, hb⟩; have hK := Keep.next (by (repeat (first | with_reducible assumption | with_reducible apply Keep.alloc | with_reducible apply Keep.drew | ((with_reducible refine Keep.set ?_ ?_ ?_); rotate_left; (focus (first | assumption | omega | (simp; done) | (simp; omega))); (focus (first | assumption | omega | (simp; done) | (simp; omega))))))) hb; (try replace hb := undrew hb); obtain ⟨hc, hf⟩ := ch hb; have hz := hb.size; clear hb; (try simp only [World.size_alloc, World.size_setCell, World.size_drew] at hz); have zw0 : w.heap.size < wk5.heap.size := (by omega); have zw1 : w.heap.size + 1 < wk5.heap.size := (by omega); have zw0 : w.heap.size < wk5.heap.size := (by omega); have zw1 : w.heap.size + 1 < wk5.heap.size := (by omega); have zw2 : w.heap.size + 1 + 1 < wk5.heap.size := (by omega))
            refine hKR.out _ _ (by exact (show Keep w w ws 2 _ by (repeat (first | with_reducible assumption | with_reducible apply Keep.alloc | with_reducible apply Keep.drew | ((with_reducible refine Keep.set ?_ ?_ ?_); rotate_left; (focus (first | assumption | omega | (simp; done) | (simp; omega))); (focus (first | assumption | omega | (simp; done) | (simp; omega)))))))) (fun hHeld => ?_)
            clear hKR KR
            (try simp only [Act.put, List.setIfInBounds_toArray, List.set_cons_zero, List.set_cons_succ])
            rotate_left
            · exact AllReadyH.nil
            refine wpAnyH_ready (rs := [9]) (by kernel_rfl) (by simp) ?_
            refine AllReadyH.cons (o := { dst := some 33, op := Go.Op.call { callee := Go.Callee.value (Go.Operand.func 47), args := #[Go.Operand.tmp 30, Go.Operand.tmp 32], argTypes := #[73, 73] }, type := 73, pos := "rect.go:97", after := #[{ on := 6, ground := Go.Ground.data }, { on := 8, ground := Go.Ground.data }, { on := 8, ground := Go.Ground.chain }], guard := none }) rfl (fun KR hKR => ?_) ?_
            have hS := hHeld
            clear hHeld
            obtain ⟨hS1, hS2, hS3⟩ := hS
            go_simp
            ((try rw [if_pos (show IntKind.i64.wrap 0 = 0 from rfl)]); go_at_call 47; refine (sjoin_any _ _ _ _ _).mono ?_; rintro e wk6 ⟨rfl, hb⟩; have hK := Keep.next (by (repeat (first | with_reducible assumption | with_reducible apply Keep.alloc | with_reducible apply Keep.drew | ((with_reducible refine Keep.set ?_ ?_ ?_); rotate_left; (focus (first | assumption | omega | (simp; done) | (simp; omega))); (focus (first | assumption | omega | (simp; done) | (simp; omega))))))) hb; (try replace hb := undrew hb); obtain ⟨hc, hf⟩ := ch hb; have hz := hb.size; clear hb; (try simp only [World.size_alloc, World.size_setCell, World.size_drew] at hz); have zw0 : w.heap.size < wk6.heap.size := (by omega); have zw1 : w.heap.size + 1 < wk6.heap.size := (by omega); have zw0 : w.heap.size < wk6.heap.size := (by omega); have zw1 : w.heap.size + 1 < wk6.heap.size := (by omega); have zw2 : w.heap.size + 1 + 1 < wk6.heap.size := (by omega))
            refine hKR.out _ _ (by exact (show Keep w w ws 2 _ by (repeat (first | with_reducible assumption | with_reducible apply Keep.alloc | with_reducible apply Keep.drew | ((with_reducible refine Keep.set ?_ ?_ ?_); rotate_left; (focus (first | assumption | omega | (simp; done) | (simp; omega))); (focus (first | assumption | omega | (simp; done) | (simp; omega)))))))) (fun hHeld => ?_)
            clear hKR KR
            (try simp only [Act.put, List.setIfInBounds_toArray, List.set_cons_zero, List.set_cons_succ])
            rotate_left
            · exact AllReadyH.nil
            refine wpAnyH_ready (rs := [10]) (by kernel_rfl) (by simp) ?_
            refine AllReadyH.cons (o := { dst := some 34, op := Go.Op.call { callee := Go.Callee.value (Go.Operand.func 44), args := #[Go.Operand.tmp 28, Go.Operand.tmp 33], argTypes := #[73, 73] }, type := 24, pos := "rect.go:97", after := #[{ on := 4, ground := Go.Ground.data }, { on := 9, ground := Go.Ground.data }, { on := 9, ground := Go.Ground.chain }], guard := none }) rfl (fun KR hKR => ?_) ?_
            have hS := hHeld
            clear hHeld
            obtain ⟨hS1, hS2, hS3⟩ := hS
            go_simp
            ((try rw [if_pos (show IntKind.i64.wrap 0 = 0 from rfl)]); go_at_call 44; refine (of_any _ _ _ _ _ (by omega) (by omega) (by omega) (by omega)).mono ?_; rintro e wk7 ⟨rfl, hb⟩; have hK := Keep.next (by (repeat (first | with_reducible assumption | with_reducible apply Keep.alloc | with_reducible apply Keep.drew | ((with_reducible refine Keep.set ?_ ?_ ?_); rotate_left; (focus (first | assumption | omega | (simp; done) | (simp; omega))); (focus (first | assumption | omega | (simp; done) | (simp; omega))))))) hb; (try replace hb := undrew hb); obtain ⟨hc, hf⟩ := ch hb; have hz := hb.size; clear hb; (try simp only [World.size_alloc, World.size_setCell, World.size_drew] at hz); have zw0 : w.heap.size < wk7.heap.size := (by omega); have zw1 : w.heap.size + 1 < wk7.heap.size := (by omega); have zw0 : w.heap.size < wk7.heap.size := (by omega); have zw1 : w.heap.size + 1 < wk7.heap.size := (by omega); have zw2 : w.heap.size + 1 + 1 < wk7.heap.size := (by omega))
            refine hKR.out _ _ (by exact (show Keep w w ws 2 _ by (repeat (first | with_reducible assumption | with_reducible apply Keep.alloc | with_reducible apply Keep.drew | ((with_reducible refine Keep.set ?_ ?_ ?_); rotate_left; (focus (first | assumption | omega | (simp; done) | (simp; omega))); (focus (first | assumption | omega | (simp; done) | (simp; omega)))))))) (fun hHeld => ?_)
            clear hKR KR
            (try simp only [Act.put, List.setIfInBounds_toArray, List.set_cons_zero, List.set_cons_succ])
            rotate_left
            · exact AllReadyH.nil
            refine wpAnyH_ready (rs := [11]) (by kernel_rfl) (by simp) ?_
            refine AllReadyH.cons (o := { dst := some 35, op := Go.Op.call { callee := Go.Callee.value (Go.Operand.func 46), args := #[Go.Operand.tmp 34], argTypes := #[24] }, type := 31, pos := "rect.go:97", after := #[{ on := 10, ground := Go.Ground.data }, { on := 10, ground := Go.Ground.chain }], guard := none }) rfl (fun KR hKR => ?_) ?_
            have hS := hHeld
            clear hHeld
            obtain ⟨hS1, hS2, hS3⟩ := hS
            go_simp
            ((try rw [if_pos (show IntKind.i64.wrap 0 = 0 from rfl)]); go_at_call 46; refine (fit_yes _ _ _ _ _ e).mono ?_; rintro e wk8 ⟨rfl, hb⟩; have hK := Keep.next (by (repeat (first | with_reducible assumption | with_reducible apply Keep.alloc | with_reducible apply Keep.drew | ((with_reducible refine Keep.set ?_ ?_ ?_); rotate_left; (focus (first | assumption | omega | (simp; done) | (simp; omega))); (focus (first | assumption | omega | (simp; done) | (simp; omega))))))) hb; (try replace hb := undrew hb); obtain ⟨hc, hf⟩ := ch hb; have hz := hb.size; clear hb; (try simp only [World.size_alloc, World.size_setCell, World.size_drew] at hz); have zw0 : w.heap.size < wk8.heap.size := (by omega); have zw1 : w.heap.size + 1 < wk8.heap.size := (by omega); have zw0 : w.heap.size < wk8.heap.size := (by omega); have zw1 : w.heap.size + 1 < wk8.heap.size := (by omega); have zw2 : w.heap.size + 1 + 1 < wk8.heap.size := (by omega))
            refine hKR.out _ _ (by exact (show Keep w w ws 2 _ by (repeat (first | with_reducible assumption | with_reducible apply Keep.alloc | with_reducible apply Keep.drew | ((with_reducible refine Keep.set ?_ ?_ ?_); rotate_left; (focus (first | assumption | omega | (simp; done) | (simp; omega))); (focus (first | assumption | omega | (simp; done) | (simp; omega)))))))) (fun hHeld => ?_)
            clear hKR KR
            (try simp only [Act.put, List.setIfInBounds_toArray, List.set_cons_zero, List.set_cons_succ])
            rotate_left
            · exact AllReadyH.nil
            refine wpAnyH_take (i := 12) (oi := { dst := some 36, op := Go.Op.extract (Go.Operand.tmp 35) 0, type := 24, pos := "rect.go:97", after := #[{ on := 11, ground := Go.Ground.data }], guard := none }) (v := ?_) rfl (by kernel_rfl) (by kernel_rfl) (by kernel_rfl) (fun _ _ _ h => h) (Or.inl ⟨by rfl, ?_⟩) hHeld ?_
            rotate_left
            · intro W_ hSw
              obtain ⟨hS1, hS2, hS3⟩ := hSw
              go_simp
              try with_reducible rfl
            (try simp only [Act.put, List.setIfInBounds_toArray, List.set_cons_zero, List.set_cons_succ])
            refine wpAnyH_take (i := 13) (oi := { dst := some 37, op := Go.Op.extract (Go.Operand.tmp 35) 1, type := 30, pos := "rect.go:97", after := #[{ on := 11, ground := Go.Ground.data }], guard := none }) (v := ?_) rfl (by kernel_rfl) (by kernel_rfl) (by kernel_rfl) (fun _ _ _ h => h) (Or.inl ⟨by rfl, ?_⟩) hHeld ?_
            rotate_left
            · intro W_ hSw
              obtain ⟨hS1, hS2, hS3⟩ := hSw
              go_simp
              try with_reducible rfl
            (try simp only [Act.put, List.setIfInBounds_toArray, List.set_cons_zero, List.set_cons_succ])
            refine wpAnyH_ready (rs := [14]) (by kernel_rfl) (by simp) ?_
            refine AllReadyH.cons (o := { dst := none, op := Go.Op.store 24 (Go.Operand.tmp 4) (Go.Operand.tmp 36), type := 0, pos := "rect.go:97", after := #[{ on := 12, ground := Go.Ground.data }, { on := 11, ground := Go.Ground.chain }, { on := 0, ground := Go.Ground.phase }, { on := 1, ground := Go.Ground.phase }, { on := 2, ground := Go.Ground.phase }, { on := 3, ground := Go.Ground.phase }, { on := 4, ground := Go.Ground.phase }, { on := 5, ground := Go.Ground.phase }, { on := 6, ground := Go.Ground.phase }, { on := 7, ground := Go.Ground.phase }, { on := 8, ground := Go.Ground.phase }, { on := 9, ground := Go.Ground.phase }, { on := 10, ground := Go.Ground.phase }, { on := 11, ground := Go.Ground.phase }, { on := 12, ground := Go.Ground.phase }, { on := 13, ground := Go.Ground.phase }], guard := none }) rfl (fun KR hKR => ?_) ?_
            have hS := hHeld
            clear hHeld
            obtain ⟨hS1, hS2, hS3⟩ := hS
            go_simp
            refine hKR.out _ _ (by exact (show Keep w w ws 2 _ by (repeat (first | with_reducible assumption | with_reducible apply Keep.alloc | with_reducible apply Keep.drew | ((with_reducible refine Keep.set ?_ ?_ ?_); rotate_left; (focus (first | assumption | omega | (simp; done) | (simp; omega))); (focus (first | assumption | omega | (simp; done) | (simp; omega)))))))) (fun hHeld => ?_)
            clear hKR KR
            (try simp only [Act.put, List.setIfInBounds_toArray, List.set_cons_zero, List.set_cons_succ])
            rotate_left
            · exact AllReadyH.nil
            refine wpAnyH_take (i := 15) (oi := { dst := some 5, op := Go.Op.assign (Go.Operand.tmp 37), type := 30, pos := "rect.go:97", after := #[{ on := 13, ground := Go.Ground.data }, { on := 14, ground := Go.Ground.chain }, { on := 0, ground := Go.Ground.phase }, { on := 1, ground := Go.Ground.phase }, { on := 2, ground := Go.Ground.phase }, { on := 3, ground := Go.Ground.phase }, { on := 4, ground := Go.Ground.phase }, { on := 5, ground := Go.Ground.phase }, { on := 6, ground := Go.Ground.phase }, { on := 7, ground := Go.Ground.phase }, { on := 8, ground := Go.Ground.phase }, { on := 9, ground := Go.Ground.phase }, { on := 10, ground := Go.Ground.phase }, { on := 11, ground := Go.Ground.phase }, { on := 12, ground := Go.Ground.phase }, { on := 13, ground := Go.Ground.phase }, { on := 14, ground := Go.Ground.phase }], guard := none }) (v := ?_) rfl (by kernel_rfl) (by kernel_rfl) (by kernel_rfl) (fun _ _ _ h => h) (Or.inl ⟨by rfl, ?_⟩) hHeld ?_
            rotate_left
            · intro W_ hSw
              obtain ⟨hS1, hS2, hS3⟩ := hSw
              go_simp
              try with_reducible rfl
            (try simp only [Act.put, List.setIfInBounds_toArray, List.set_cons_zero, List.set_cons_succ])
            refine wpAnyH_done (by kernel_rfl) ?_ _
            refine NoPanic.normal ?_
            go_wp2
            exact bodyPost_ret (v := .tuple #[.agg #[.int .i64 (min x x'), .int .i64 (min y y'), .int .i64 (max (x + u) (x' + u') - min x x'), .int .i64 (max (y + v) (y' + v') - min y y')], .int .i64 0]) (by simp [results, Try.results13, go_sem, *]) rfl ⟨by simp [joinF, hullF, R4.right, R4.empty, a, b, c, d, e], by (repeat (first | with_reducible exact Below.refl _ _ | with_reducible apply below_alloc | with_reducible apply below_drew1 | with_reducible assumption | (with_reducible refine Keep.below (by assumption)) | (with_reducible refine bel ?_ (by assumption)) | ((with_reducible refine below_set ?_ ?_); rotate_left; (focus (first | assumption | omega | (simp; done) | (simp; omega))))))⟩
          | false =>
            go_enter Try.func13, Try.ntmps13
            go_wp2_with (first | (go_at_call 8; refine (right_any _ _ _ _ _).mono ?_; rintro e w1 ⟨rfl, hb⟩; (try replace hb := undrew hb); obtain ⟨hc, hf⟩ := ch hb; have hz := hb.size; (try simp only [World.size_alloc, World.size_setCell, World.size_drew] at hz); have zw0 : w.heap.size < w1.heap.size := (by omega); have zw1 : w.heap.size + 1 < w1.heap.size := (by omega); have zw2 : w.heap.size + 1 + 1 < w1.heap.size := (by omega)) | (go_at_call 12; refine (empty_any _ _ _ _ _).mono ?_; rintro e w1 ⟨rfl, hb⟩; (try replace hb := undrew hb); obtain ⟨hc, hf⟩ := ch hb; have hz := hb.size; (try simp only [World.size_alloc, World.size_setCell, World.size_drew] at hz); have zw0 : w.heap.size < w1.heap.size := (by omega); have zw1 : w.heap.size + 1 < w1.heap.size := (by omega); have zw2 : w.heap.size + 1 + 1 < w1.heap.size := (by omega)))
            obtain ⟨ws, rfl⟩ : ∃ ws, ws = w1 := ⟨_, rfl⟩
            have hK : Keep w w ws 2 ws := Keep.start (by (repeat (first | with_reducible exact Below.refl _ _ | with_reducible apply below_alloc | with_reducible apply below_drew1 | with_reducible assumption | (with_reducible refine Keep.below (by assumption)) | (with_reducible refine bel ?_ (by assumption)) | ((with_reducible refine below_set ?_ ?_); rotate_left; (focus (first | assumption | omega | (simp; done) | (simp; omega))))))) (by first | assumption | omega | (simp; done) | (simp; omega))
            refine wp_region_noPanic ?_
            refine wp_region_held_drew (S := fun W_ => (∀ b_ o_, b_ < w.heap.size + 2 → W_.cell? ⟨b_, o_, none⟩ = ws.cell? ⟨b_, o_, none⟩) ∧ w.heap.size + 2 ≤ W_.heap.size ∧ Below w.heap.size w W_) (by kernel_rfl) (show Keep w w ws 2 _ by (repeat (first | with_reducible assumption | with_reducible apply Keep.alloc | with_reducible apply Keep.drew | ((with_reducible refine Keep.set ?_ ?_ ?_); rotate_left; (focus (first | assumption | omega | (simp; done) | (simp; omega))); (focus (first | assumption | omega | (simp; done) | (simp; omega))))))) (fun hHeld => ?_)
            refine wpAnyH_take (i := 0) (oi := { dst := some 24, op := Go.Op.load 24 (Go.Operand.tmp 2), type := 24, pos := "rect.go:97", after := #[], guard := none }) (v := ?_) rfl (by kernel_rfl) (by kernel_rfl) (by kernel_rfl) (fun _ _ _ h => h) (Or.inl ⟨by rfl, ?_⟩) hHeld ?_
            rotate_left
            · intro W_ hSw
              obtain ⟨hS1, hS2, hS3⟩ := hSw
              go_simp
              try with_reducible rfl
            (try simp only [Act.put, List.setIfInBounds_toArray, List.set_cons_zero, List.set_cons_succ])
            refine wpAnyH_take (i := 2) (oi := { dst := some 26, op := Go.Op.load 24 (Go.Operand.tmp 3), type := 24, pos := "rect.go:97", after := #[], guard := none }) (v := ?_) rfl (by kernel_rfl) (by kernel_rfl) (by kernel_rfl) (fun _ _ _ h => h) (Or.inl ⟨by rfl, ?_⟩) hHeld ?_
            rotate_left
            · intro W_ hSw
              obtain ⟨hS1, hS2, hS3⟩ := hSw
              go_simp
              try with_reducible rfl
            (try simp only [Act.put, List.setIfInBounds_toArray, List.set_cons_zero, List.set_cons_succ])
            refine wpAnyH_take (i := 5) (oi := { dst := some 29, op := Go.Op.load 24 (Go.Operand.tmp 2), type := 24, pos := "rect.go:97", after := #[], guard := none }) (v := ?_) rfl (by kernel_rfl) (by kernel_rfl) (by kernel_rfl) (fun _ _ _ h => h) (Or.inl ⟨by rfl, ?_⟩) hHeld ?_
            rotate_left
            · intro W_ hSw
              obtain ⟨hS1, hS2, hS3⟩ := hSw
              go_simp
              try with_reducible rfl
            (try simp only [Act.put, List.setIfInBounds_toArray, List.set_cons_zero, List.set_cons_succ])
            refine wpAnyH_take (i := 7) (oi := { dst := some 31, op := Go.Op.load 24 (Go.Operand.tmp 3), type := 24, pos := "rect.go:97", after := #[], guard := none }) (v := ?_) rfl (by kernel_rfl) (by kernel_rfl) (by kernel_rfl) (fun _ _ _ h => h) (Or.inl ⟨by rfl, ?_⟩) hHeld ?_
            rotate_left
            · intro W_ hSw
              obtain ⟨hS1, hS2, hS3⟩ := hSw
              go_simp
              try with_reducible rfl
            (try simp only [Act.put, List.setIfInBounds_toArray, List.set_cons_zero, List.set_cons_succ])
            refine wpAnyH_ready (rs := [1]) (by kernel_rfl) (by simp) ?_
            refine AllReadyH.cons (o := { dst := some 25, op := Go.Op.call { callee := Go.Callee.value (Go.Operand.func 40), args := #[Go.Operand.tmp 24], argTypes := #[24] }, type := 73, pos := "rect.go:97", after := #[{ on := 0, ground := Go.Ground.data }], guard := none }) rfl (fun KR hKR => ?_) ?_
            have hS := hHeld
            clear hHeld
            obtain ⟨hS1, hS2, hS3⟩ := hS
            go_simp
            ((try rw [if_pos (show IntKind.i64.wrap 0 = 0 from rfl)]); go_at_call 40; refine (wide_any _ _ _ _ _ (by omega) (by omega) (by omega) (by omega)).mono ?_; rintro e wk1 ⟨rfl, hb⟩; have hK := Keep.next (by (repeat (first | with_reducible assumption | with_reducible apply Keep.alloc | with_reducible apply Keep.drew | ((with_reducible refine Keep.set ?_ ?_ ?_); rotate_left; (focus (first | assumption | omega | (simp; done) | (simp; omega))); (focus (first | assumption | omega | (simp; done) | (simp; omega))))))) hb; (try replace hb := undrew hb); obtain ⟨hc, hf⟩ := ch hb; have hz := hb.size; clear hb; (try simp only [World.size_alloc, World.size_setCell, World.size_drew] at hz); have zw0 : w.heap.size < wk1.heap.size := (by omega); have zw1 : w.heap.size + 1 < wk1.heap.size := (by omega); have zw0 : w.heap.size < wk1.heap.size := (by omega); have zw1 : w.heap.size + 1 < wk1.heap.size := (by omega); have zw2 : w.heap.size + 1 + 1 < wk1.heap.size := (by omega))
            refine hKR.out _ _ (by exact (show Keep w w ws 2 _ by (repeat (first | with_reducible assumption | with_reducible apply Keep.alloc | with_reducible apply Keep.drew | ((with_reducible refine Keep.set ?_ ?_ ?_); rotate_left; (focus (first | assumption | omega | (simp; done) | (simp; omega))); (focus (first | assumption | omega | (simp; done) | (simp; omega)))))))) (fun hHeld => ?_)
            clear hKR KR
            (try simp only [Act.put, List.setIfInBounds_toArray, List.set_cons_zero, List.set_cons_succ])
            rotate_left
            · exact AllReadyH.nil
            refine wpAnyH_ready (rs := [3]) (by kernel_rfl) (by simp) ?_
            refine AllReadyH.cons (o := { dst := some 27, op := Go.Op.call { callee := Go.Callee.value (Go.Operand.func 40), args := #[Go.Operand.tmp 26], argTypes := #[24] }, type := 73, pos := "rect.go:97", after := #[{ on := 2, ground := Go.Ground.data }, { on := 1, ground := Go.Ground.chain }], guard := none }) rfl (fun KR hKR => ?_) ?_
            have hS := hHeld
            clear hHeld
            obtain ⟨hS1, hS2, hS3⟩ := hS
            go_simp
            ((try rw [if_pos (show IntKind.i64.wrap 0 = 0 from rfl)]); go_at_call 40; refine (wide_any _ _ _ _ _ (by omega) (by omega) (by omega) (by omega)).mono ?_; rintro e wk2 ⟨rfl, hb⟩; have hK := Keep.next (by (repeat (first | with_reducible assumption | with_reducible apply Keep.alloc | with_reducible apply Keep.drew | ((with_reducible refine Keep.set ?_ ?_ ?_); rotate_left; (focus (first | assumption | omega | (simp; done) | (simp; omega))); (focus (first | assumption | omega | (simp; done) | (simp; omega))))))) hb; (try replace hb := undrew hb); obtain ⟨hc, hf⟩ := ch hb; have hz := hb.size; clear hb; (try simp only [World.size_alloc, World.size_setCell, World.size_drew] at hz); have zw0 : w.heap.size < wk2.heap.size := (by omega); have zw1 : w.heap.size + 1 < wk2.heap.size := (by omega); have zw0 : w.heap.size < wk2.heap.size := (by omega); have zw1 : w.heap.size + 1 < wk2.heap.size := (by omega); have zw2 : w.heap.size + 1 + 1 < wk2.heap.size := (by omega))
            refine hKR.out _ _ (by exact (show Keep w w ws 2 _ by (repeat (first | with_reducible assumption | with_reducible apply Keep.alloc | with_reducible apply Keep.drew | ((with_reducible refine Keep.set ?_ ?_ ?_); rotate_left; (focus (first | assumption | omega | (simp; done) | (simp; omega))); (focus (first | assumption | omega | (simp; done) | (simp; omega)))))))) (fun hHeld => ?_)
            clear hKR KR
            (try simp only [Act.put, List.setIfInBounds_toArray, List.set_cons_zero, List.set_cons_succ])
            rotate_left
            · exact AllReadyH.nil
            refine wpAnyH_ready (rs := [4]) (by kernel_rfl) (by simp) ?_
            refine AllReadyH.cons (o := { dst := some 28, op := Go.Op.call { callee := Go.Callee.value (Go.Operand.func 47), args := #[Go.Operand.tmp 25, Go.Operand.tmp 27], argTypes := #[73, 73] }, type := 73, pos := "rect.go:97", after := #[{ on := 1, ground := Go.Ground.data }, { on := 3, ground := Go.Ground.data }, { on := 3, ground := Go.Ground.chain }], guard := none }) rfl (fun KR hKR => ?_) ?_
            have hS := hHeld
            clear hHeld
            obtain ⟨hS1, hS2, hS3⟩ := hS
            go_simp
            ((try rw [if_pos (show IntKind.i64.wrap 0 = 0 from rfl)]); go_at_call 47; refine (sjoin_any _ _ _ _ _).mono ?_; rintro e wk3 ⟨rfl, hb⟩; have hK := Keep.next (by (repeat (first | with_reducible assumption | with_reducible apply Keep.alloc | with_reducible apply Keep.drew | ((with_reducible refine Keep.set ?_ ?_ ?_); rotate_left; (focus (first | assumption | omega | (simp; done) | (simp; omega))); (focus (first | assumption | omega | (simp; done) | (simp; omega))))))) hb; (try replace hb := undrew hb); obtain ⟨hc, hf⟩ := ch hb; have hz := hb.size; clear hb; (try simp only [World.size_alloc, World.size_setCell, World.size_drew] at hz); have zw0 : w.heap.size < wk3.heap.size := (by omega); have zw1 : w.heap.size + 1 < wk3.heap.size := (by omega); have zw0 : w.heap.size < wk3.heap.size := (by omega); have zw1 : w.heap.size + 1 < wk3.heap.size := (by omega); have zw2 : w.heap.size + 1 + 1 < wk3.heap.size := (by omega))
            refine hKR.out _ _ (by exact (show Keep w w ws 2 _ by (repeat (first | with_reducible assumption | with_reducible apply Keep.alloc | with_reducible apply Keep.drew | ((with_reducible refine Keep.set ?_ ?_ ?_); rotate_left; (focus (first | assumption | omega | (simp; done) | (simp; omega))); (focus (first | assumption | omega | (simp; done) | (simp; omega)))))))) (fun hHeld => ?_)
            clear hKR KR
            (try simp only [Act.put, List.setIfInBounds_toArray, List.set_cons_zero, List.set_cons_succ])
            rotate_left
            · exact AllReadyH.nil
            refine wpAnyH_ready (rs := [6]) (by kernel_rfl) (by simp) ?_
            refine AllReadyH.cons (o := { dst := some 30, op := Go.Op.call { callee := Go.Callee.value (Go.Operand.func 42), args := #[Go.Operand.tmp 29], argTypes := #[24] }, type := 73, pos := "rect.go:97", after := #[{ on := 5, ground := Go.Ground.data }, { on := 4, ground := Go.Ground.chain }], guard := none }) rfl (fun KR hKR => ?_) ?_
            have hS := hHeld
            clear hHeld
            obtain ⟨hS1, hS2, hS3⟩ := hS
            go_simp
            ((try rw [if_pos (show IntKind.i64.wrap 0 = 0 from rfl)]); go_at_call 42; refine (tall_any _ _ _ _ _ (by omega) (by omega) (by omega) (by omega)).mono ?_; rintro e wk4 ⟨rfl, hb⟩; have hK := Keep.next (by (repeat (first | with_reducible assumption | with_reducible apply Keep.alloc | with_reducible apply Keep.drew | ((with_reducible refine Keep.set ?_ ?_ ?_); rotate_left; (focus (first | assumption | omega | (simp; done) | (simp; omega))); (focus (first | assumption | omega | (simp; done) | (simp; omega))))))) hb; (try replace hb := undrew hb); obtain ⟨hc, hf⟩ := ch hb; have hz := hb.size; clear hb; (try simp only [World.size_alloc, World.size_setCell, World.size_drew] at hz); have zw0 : w.heap.size < wk4.heap.size := (by omega); have zw1 : w.heap.size + 1 < wk4.heap.size := (by omega); have zw0 : w.heap.size < wk4.heap.size := (by omega); have zw1 : w.heap.size + 1 < wk4.heap.size := (by omega); have zw2 : w.heap.size + 1 + 1 < wk4.heap.size := (by omega))
            refine hKR.out _ _ (by exact (show Keep w w ws 2 _ by (repeat (first | with_reducible assumption | with_reducible apply Keep.alloc | with_reducible apply Keep.drew | ((with_reducible refine Keep.set ?_ ?_ ?_); rotate_left; (focus (first | assumption | omega | (simp; done) | (simp; omega))); (focus (first | assumption | omega | (simp; done) | (simp; omega)))))))) (fun hHeld => ?_)
            clear hKR KR
            (try simp only [Act.put, List.setIfInBounds_toArray, List.set_cons_zero, List.set_cons_succ])
            rotate_left
            · exact AllReadyH.nil
            refine wpAnyH_ready (rs := [8]) (by kernel_rfl) (by simp) ?_
            refine AllReadyH.cons (o := { dst := some 32, op := Go.Op.call { callee := Go.Callee.value (Go.Operand.func 42), args := #[Go.Operand.tmp 31], argTypes := #[24] }, type := 73, pos := "rect.go:97", after := #[{ on := 7, ground := Go.Ground.data }, { on := 6, ground := Go.Ground.chain }], guard := none }) rfl (fun KR hKR => ?_) ?_
            have hS := hHeld
            clear hHeld
            obtain ⟨hS1, hS2, hS3⟩ := hS
            go_simp
            ((try rw [if_pos (show IntKind.i64.wrap 0 = 0 from rfl)]); go_at_call 42; refine (tall_any _ _ _ _ _ (by omega) (by omega) (by omega) (by omega)).mono ?_; rintro e wk5 ⟨rfl, hb⟩; have hK := Keep.next (by (repeat (first | with_reducible assumption | with_reducible apply Keep.alloc | with_reducible apply Keep.drew | ((with_reducible refine Keep.set ?_ ?_ ?_); rotate_left; (focus (first | assumption | omega | (simp; done) | (simp; omega))); (focus (first | assumption | omega | (simp; done) | (simp; omega))))))) hb; (try replace hb := undrew hb); obtain ⟨hc, hf⟩ := ch hb; have hz := hb.size; clear hb; (try simp only [World.size_alloc, World.size_setCell, World.size_drew] at hz); have zw0 : w.heap.size < wk5.heap.size := (by omega); have zw1 : w.heap.size + 1 < wk5.heap.size := (by omega); have zw0 : w.heap.size < wk5.heap.size := (by omega); have zw1 : w.heap.size + 1 < wk5.heap.size := (by omega); have zw2 : w.heap.size + 1 + 1 < wk5.heap.size := (by omega))
            refine hKR.out _ _ (by exact (show Keep w w ws 2 _ by (repeat (first | with_reducible assumption | with_reducible apply Keep.alloc | with_reducible apply Keep.drew | ((with_reducible refine Keep.set ?_ ?_ ?_); rotate_left; (focus (first | assumption | omega | (simp; done) | (simp; omega))); (focus (first | assumption | omega | (simp; done) | (simp; omega)))))))) (fun hHeld => ?_)
            clear hKR KR
            (try simp only [Act.put, List.setIfInBounds_toArray, List.set_cons_zero, List.set_cons_succ])
            rotate_left
            · exact AllReadyH.nil
            refine wpAnyH_ready (rs := [9]) (by kernel_rfl) (by simp) ?_
            refine AllReadyH.cons (o := { dst := some 33, op := Go.Op.call { callee := Go.Callee.value (Go.Operand.func 47), args := #[Go.Operand.tmp 30, Go.Operand.tmp 32], argTypes := #[73, 73] }, type := 73, pos := "rect.go:97", after := #[{ on := 6, ground := Go.Ground.data }, { on := 8, ground := Go.Ground.data }, { on := 8, ground := Go.Ground.chain }], guard := none }) rfl (fun KR hKR => ?_) ?_
            have hS := hHeld
            clear hHeld
            obtain ⟨hS1, hS2, hS3⟩ := hS
            go_simp
            ((try rw [if_pos (show IntKind.i64.wrap 0 = 0 from rfl)]); go_at_call 47; refine (sjoin_any _ _ _ _ _).mono ?_; rintro e wk6 ⟨rfl, hb⟩; have hK := Keep.next (by (repeat (first | with_reducible assumption | with_reducible apply Keep.alloc | with_reducible apply Keep.drew | ((with_reducible refine Keep.set ?_ ?_ ?_); rotate_left; (focus (first | assumption | omega | (simp; done) | (simp; omega))); (focus (first | assumption | omega | (simp; done) | (simp; omega))))))) hb; (try replace hb := undrew hb); obtain ⟨hc, hf⟩ := ch hb; have hz := hb.size; clear hb; (try simp only [World.size_alloc, World.size_setCell, World.size_drew] at hz); have zw0 : w.heap.size < wk6.heap.size := (by omega); have zw1 : w.heap.size + 1 < wk6.heap.size := (by omega); have zw0 : w.heap.size < wk6.heap.size := (by omega); have zw1 : w.heap.size + 1 < wk6.heap.size := (by omega); have zw2 : w.heap.size + 1 + 1 < wk6.heap.size := (by omega))
            refine hKR.out _ _ (by exact (show Keep w w ws 2 _ by (repeat (first | with_reducible assumption | with_reducible apply Keep.alloc | with_reducible apply Keep.drew | ((with_reducible refine Keep.set ?_ ?_ ?_); rotate_left; (focus (first | assumption | omega | (simp; done) | (simp; omega))); (focus (first | assumption | omega | (simp; done) | (simp; omega)))))))) (fun hHeld => ?_)
            clear hKR KR
            (try simp only [Act.put, List.setIfInBounds_toArray, List.set_cons_zero, List.set_cons_succ])
            rotate_left
            · exact AllReadyH.nil
            refine wpAnyH_ready (rs := [10]) (by kernel_rfl) (by simp) ?_
            refine AllReadyH.cons (o := { dst := some 34, op := Go.Op.call { callee := Go.Callee.value (Go.Operand.func 44), args := #[Go.Operand.tmp 28, Go.Operand.tmp 33], argTypes := #[73, 73] }, type := 24, pos := "rect.go:97", after := #[{ on := 4, ground := Go.Ground.data }, { on := 9, ground := Go.Ground.data }, { on := 9, ground := Go.Ground.chain }], guard := none }) rfl (fun KR hKR => ?_) ?_
            have hS := hHeld
            clear hHeld
            obtain ⟨hS1, hS2, hS3⟩ := hS
            go_simp
            ((try rw [if_pos (show IntKind.i64.wrap 0 = 0 from rfl)]); go_at_call 44; refine (of_any _ _ _ _ _ (by omega) (by omega) (by omega) (by omega)).mono ?_; rintro e wk7 ⟨rfl, hb⟩; have hK := Keep.next (by (repeat (first | with_reducible assumption | with_reducible apply Keep.alloc | with_reducible apply Keep.drew | ((with_reducible refine Keep.set ?_ ?_ ?_); rotate_left; (focus (first | assumption | omega | (simp; done) | (simp; omega))); (focus (first | assumption | omega | (simp; done) | (simp; omega))))))) hb; (try replace hb := undrew hb); obtain ⟨hc, hf⟩ := ch hb; have hz := hb.size; clear hb; (try simp only [World.size_alloc, World.size_setCell, World.size_drew] at hz); have zw0 : w.heap.size < wk7.heap.size := (by omega); have zw1 : w.heap.size + 1 < wk7.heap.size := (by omega); have zw0 : w.heap.size < wk7.heap.size := (by omega); have zw1 : w.heap.size + 1 < wk7.heap.size := (by omega); have zw2 : w.heap.size + 1 + 1 < wk7.heap.size := (by omega))
            refine hKR.out _ _ (by exact (show Keep w w ws 2 _ by (repeat (first | with_reducible assumption | with_reducible apply Keep.alloc | with_reducible apply Keep.drew | ((with_reducible refine Keep.set ?_ ?_ ?_); rotate_left; (focus (first | assumption | omega | (simp; done) | (simp; omega))); (focus (first | assumption | omega | (simp; done) | (simp; omega)))))))) (fun hHeld => ?_)
            clear hKR KR
            (try simp only [Act.put, List.setIfInBounds_toArray, List.set_cons_zero, List.set_cons_succ])
            rotate_left
            · exact AllReadyH.nil
            refine wpAnyH_ready (rs := [11]) (by kernel_rfl) (by simp) ?_
            refine AllReadyH.cons (o := { dst := some 35, op := Go.Op.call { callee := Go.Callee.value (Go.Operand.func 46), args := #[Go.Operand.tmp 34], argTypes := #[24] }, type := 31, pos := "rect.go:97", after := #[{ on := 10, ground := Go.Ground.data }, { on := 10, ground := Go.Ground.chain }], guard := none }) rfl (fun KR hKR => ?_) ?_
            have hS := hHeld
            clear hHeld
            obtain ⟨hS1, hS2, hS3⟩ := hS
            go_simp
            ((try rw [if_pos (show IntKind.i64.wrap 0 = 0 from rfl)]); go_at_call 46; refine (fit_no _ _ _ _ _ e).mono ?_; rintro e wk8 ⟨rfl, hb⟩; have hK := Keep.next (by (repeat (first | with_reducible assumption | with_reducible apply Keep.alloc | with_reducible apply Keep.drew | ((with_reducible refine Keep.set ?_ ?_ ?_); rotate_left; (focus (first | assumption | omega | (simp; done) | (simp; omega))); (focus (first | assumption | omega | (simp; done) | (simp; omega))))))) hb; (try replace hb := undrew hb); obtain ⟨hc, hf⟩ := ch hb; have hz := hb.size; clear hb; (try simp only [World.size_alloc, World.size_setCell, World.size_drew] at hz); have zw0 : w.heap.size < wk8.heap.size := (by omega); have zw1 : w.heap.size + 1 < wk8.heap.size := (by omega); have zw0 : w.heap.size < wk8.heap.size := (by omega); have zw1 : w.heap.size + 1 < wk8.heap.size := (by omega); have zw2 : w.heap.size + 1 + 1 < wk8.heap.size := (by omega))
            refine hKR.out _ _ (by exact (show Keep w w ws 2 _ by (repeat (first | with_reducible assumption | with_reducible apply Keep.alloc | with_reducible apply Keep.drew | ((with_reducible refine Keep.set ?_ ?_ ?_); rotate_left; (focus (first | assumption | omega | (simp; done) | (simp; omega))); (focus (first | assumption | omega | (simp; done) | (simp; omega)))))))) (fun hHeld => ?_)
            clear hKR KR
            (try simp only [Act.put, List.setIfInBounds_toArray, List.set_cons_zero, List.set_cons_succ])
            rotate_left
            · exact AllReadyH.nil
            refine wpAnyH_take (i := 12) (oi := { dst := some 36, op := Go.Op.extract (Go.Operand.tmp 35) 0, type := 24, pos := "rect.go:97", after := #[{ on := 11, ground := Go.Ground.data }], guard := none }) (v := ?_) rfl (by kernel_rfl) (by kernel_rfl) (by kernel_rfl) (fun _ _ _ h => h) (Or.inl ⟨by rfl, ?_⟩) hHeld ?_
            rotate_left
            · intro W_ hSw
              obtain ⟨hS1, hS2, hS3⟩ := hSw
              go_simp
              try with_reducible rfl
            (try simp only [Act.put, List.setIfInBounds_toArray, List.set_cons_zero, List.set_cons_succ])
            refine wpAnyH_take (i := 13) (oi := { dst := some 37, op := Go.Op.extract (Go.Operand.tmp 35) 1, type := 30, pos := "rect.go:97", after := #[{ on := 11, ground := Go.Ground.data }], guard := none }) (v := ?_) rfl (by kernel_rfl) (by kernel_rfl) (by kernel_rfl) (fun _ _ _ h => h) (Or.inl ⟨by rfl, ?_⟩) hHeld ?_
            rotate_left
            · intro W_ hSw
              obtain ⟨hS1, hS2, hS3⟩ := hSw
              go_simp
              try with_reducible rfl
            (try simp only [Act.put, List.setIfInBounds_toArray, List.set_cons_zero, List.set_cons_succ])
            refine wpAnyH_ready (rs := [14]) (by kernel_rfl) (by simp) ?_
            refine AllReadyH.cons (o := { dst := none, op := Go.Op.store 24 (Go.Operand.tmp 4) (Go.Operand.tmp 36), type := 0, pos := "rect.go:97", after := #[{ on := 12, ground := Go.Ground.data }, { on := 11, ground := Go.Ground.chain }, { on := 0, ground := Go.Ground.phase }, { on := 1, ground := Go.Ground.phase }, { on := 2, ground := Go.Ground.phase }, { on := 3, ground := Go.Ground.phase }, { on := 4, ground := Go.Ground.phase }, { on := 5, ground := Go.Ground.phase }, { on := 6, ground := Go.Ground.phase }, { on := 7, ground := Go.Ground.phase }, { on := 8, ground := Go.Ground.phase }, { on := 9, ground := Go.Ground.phase }, { on := 10, ground := Go.Ground.phase }, { on := 11, ground := Go.Ground.phase }, { on := 12, ground := Go.Ground.phase }, { on := 13, ground := Go.Ground.phase }], guard := none }) rfl (fun KR hKR => ?_) ?_
            have hS := hHeld
            clear hHeld
            obtain ⟨hS1, hS2, hS3⟩ := hS
            go_simp
            refine hKR.out _ _ (by exact (show Keep w w ws 2 _ by (repeat (first | with_reducible assumption | with_reducible apply Keep.alloc | with_reducible apply Keep.drew | ((with_reducible refine Keep.set ?_ ?_ ?_); rotate_left; (focus (first | assumption | omega | (simp; done) | (simp; omega))); (focus (first | assumption | omega | (simp; done) | (simp; omega)))))))) (fun hHeld => ?_)
            clear hKR KR
            (try simp only [Act.put, List.setIfInBounds_toArray, List.set_cons_zero, List.set_cons_succ])
            rotate_left
            · exact AllReadyH.nil
            refine wpAnyH_take (i := 15) (oi := { dst := some 5, op := Go.Op.assign (Go.Operand.tmp 37), type := 30, pos := "rect.go:97", after := #[{ on := 13, ground := Go.Ground.data }, { on := 14, ground := Go.Ground.chain }, { on := 0, ground := Go.Ground.phase }, { on := 1, ground := Go.Ground.phase }, { on := 2, ground := Go.Ground.phase }, { on := 3, ground := Go.Ground.phase }, { on := 4, ground := Go.Ground.phase }, { on := 5, ground := Go.Ground.phase }, { on := 6, ground := Go.Ground.phase }, { on := 7, ground := Go.Ground.phase }, { on := 8, ground := Go.Ground.phase }, { on := 9, ground := Go.Ground.phase }, { on := 10, ground := Go.Ground.phase }, { on := 11, ground := Go.Ground.phase }, { on := 12, ground := Go.Ground.phase }, { on := 13, ground := Go.Ground.phase }, { on := 14, ground := Go.Ground.phase }], guard := none }) (v := ?_) rfl (by kernel_rfl) (by kernel_rfl) (by kernel_rfl) (fun _ _ _ h => h) (Or.inl ⟨by rfl, ?_⟩) hHeld ?_
            rotate_left
            · intro W_ hSw
              obtain ⟨hS1, hS2, hS3⟩ := hSw
              go_simp
              try with_reducible rfl
            (try simp only [Act.put, List.setIfInBounds_toArray, List.set_cons_zero, List.set_cons_succ])
            refine wpAnyH_done (by kernel_rfl) ?_ _
            refine NoPanic.normal ?_
            go_wp2
            exact bodyPost_ret (v := .tuple #[.agg #[.int .i64 0, .int .i64 0, .int .i64 0, .int .i64 0], .int .i64 30]) (by simp [results, Try.results13, go_sem, *]) rfl ⟨by simp [joinF, hullF, R4.right, R4.empty, R4.zero, a, b, c, d, e], by (repeat (first | with_reducible exact Below.refl _ _ | with_reducible apply below_alloc | with_reducible apply below_drew1 | with_reducible assumption | (with_reducible refine Keep.below (by assumption)) | (with_reducible refine bel ?_ (by assumption)) | ((with_reducible refine below_set ?_ ?_); rotate_left; (focus (first | assumption | omega | (simp; done) | (simp; omega))))))⟩
end Go.Proofs.Ytjekoaodgdodjaa
