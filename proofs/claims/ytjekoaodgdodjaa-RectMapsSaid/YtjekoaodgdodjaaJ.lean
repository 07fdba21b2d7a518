/- Walks of rect.fine, Then. -/
import Derived.Test.YtjekoaodgdodjaaI
set_option linter.unusedVariables false
set_option linter.unusedSimpArgs false
namespace Go.Proofs.Ytjekoaodgdodjaa
open Go.RowKit

set_option maxHeartbeats 400000 in
theorem mfine_yes (a b c d e f : Int) (w : World) (h : fineB a b c d e f = true) :
    Calls Try.prog 51 #[.agg #[.int .i64 a, .int .i64 b, .int .i64 c, .int .i64 d, .int .i64 e, .int .i64 f]] w fun r w' => r = .returned (.tuple #[.agg #[.int .i64 a, .int .i64 b, .int .i64 c, .int .i64 d, .int .i64 e, .int .i64 f], .int .i64 0]) ∧ Below w.heap.size w w' := by
  go_enter Try.func51, Try.ntmps51
  go_wp2_with (go_at_call 18; refine (fine_any _ _ _ _ _ _ _).mono ?_; rintro e w1 ⟨rfl, hb⟩; (try replace hb := undrew hb); obtain ⟨hc, hf⟩ := ch hb; have hz := hb.size; (try simp only [World.size_alloc, World.size_setCell, World.size_drew] at hz); have zw0 : w.heap.size < w1.heap.size := (by omega); have zw1 : w.heap.size + 1 < w1.heap.size := (by omega))
  exact bodyPost_ret (v := .tuple #[.agg #[.int .i64 a, .int .i64 b, .int .i64 c, .int .i64 d, .int .i64 e, .int .i64 f], .int .i64 0]) (by simp [results, Try.results51, go_sem, *]) rfl ⟨rfl, by (repeat (first | with_reducible exact Below.refl _ _ | with_reducible apply below_alloc | with_reducible apply below_drew1 | with_reducible assumption | (with_reducible refine Keep.below (by assumption)) | (with_reducible refine bel ?_ (by assumption)) | ((with_reducible refine below_set ?_ ?_); rotate_left; (focus (first | assumption | omega | (simp; done) | (simp; omega))))))⟩
set_option maxHeartbeats 400000 in
theorem mfine_no (a b c d e f : Int) (w : World) (h : fineB a b c d e f = false) :
    Calls Try.prog 51 #[.agg #[.int .i64 a, .int .i64 b, .int .i64 c, .int .i64 d, .int .i64 e, .int .i64 f]] w fun r w' => r = .returned (.tuple #[.agg #[.int .i64 0, .int .i64 0, .int .i64 0, .int .i64 0, .int .i64 0, .int .i64 0], .int .i64 30]) ∧ Below w.heap.size w w' := by
  go_enter Try.func51, Try.ntmps51
  go_wp2_with (go_at_call 18; refine (fine_any _ _ _ _ _ _ _).mono ?_; rintro e w1 ⟨rfl, hb⟩; (try replace hb := undrew hb); obtain ⟨hc, hf⟩ := ch hb; have hz := hb.size; (try simp only [World.size_alloc, World.size_setCell, World.size_drew] at hz); have zw0 : w.heap.size < w1.heap.size := (by omega); have zw1 : w.heap.size + 1 < w1.heap.size := (by omega))
  exact bodyPost_ret (v := .tuple #[.agg #[.int .i64 0, .int .i64 0, .int .i64 0, .int .i64 0, .int .i64 0, .int .i64 0], .int .i64 30]) (by simp [results, Try.results51, go_sem, *]) rfl ⟨rfl, by (repeat (first | with_reducible exact Below.refl _ _ | with_reducible apply below_alloc | with_reducible apply below_drew1 | with_reducible assumption | (with_reducible refine Keep.below (by assumption)) | (with_reducible refine bel ?_ (by assumption)) | ((with_reducible refine below_set ?_ ?_); rotate_left; (focus (first | assumption | omega | (simp; done) | (simp; omega))))))⟩

def M6.zero : M6 := ⟨0, 0, 0, 0, 0, 0⟩
abbrev M6.v (m : M6) : Value := .agg #[.int .i64 m.a, .int .i64 m.b, .int .i64 m.c, .int .i64 m.d, .int .i64 m.e, .int .i64 m.f]
def afterF (m n : M6) : M6 := ⟨nearF (n.a * m.a + n.b * m.c) 65536, nearF (n.a * m.b + n.b * m.d) 65536, nearF (n.c * m.a + n.d * m.c) 65536, nearF (n.c * m.b + n.d * m.d) 65536, nearF (n.a * m.e + n.b * m.f) 65536 + n.e, nearF (n.c * m.e + n.d * m.f) 65536 + n.f⟩
def thenF (m n : M6) : M6 × Int := if m.fine = true ∧ n.fine = true then (if (afterF m n).fine = true then (afterF m n, 0) else (.zero, 30)) else (.zero, 1)

theorem near_bd {n : Int} (h1 : -4611686018427387904 ≤ n) (h2 : n ≤ 4611686018427387904) : -4611686018427387905 ≤ nearF n 65536 ∧ nearF n 65536 ≤ 4611686018427387905 := by
  unfold nearF
  rw [if_neg (by omega)]
  exact nearP_bd (by omega) h1 h2
theorem sum_bd {a b x y : Int} (ha1 : -16777216 ≤ a) (ha2 : a ≤ 16777216) (hb1 : -16777216 ≤ b) (hb2 : b ≤ 16777216) (hx1 : -8589934592 ≤ x) (hx2 : x ≤ 8589934592) (hy1 : -8589934592 ≤ y) (hy2 : y ≤ 8589934592) :
    -4611686018427387904 ≤ a * x + b * y ∧ a * x + b * y ≤ 4611686018427387904 := by
  obtain ⟨q1, q2⟩ := mul_bd ha1 ha2 hx1 hx2 (by omega) (by omega)
  obtain ⟨q3, q4⟩ := mul_bd hb1 hb2 hy1 hy2 (by omega) (by omega)
  simp at q1 q2 q3 q4
  omega

set_option maxHeartbeats 2000000 in
theorem then_any (a b c d e f a' b' c' d' e' f' : Int) (w : World) :
    Calls Try.prog 16 #[.agg #[.int .i64 a, .int .i64 b, .int .i64 c, .int .i64 d, .int .i64 e, .int .i64 f], .agg #[.int .i64 a', .int .i64 b', .int .i64 c', .int .i64 d', .int .i64 e', .int .i64 f']] w fun r w' =>
      r = .returned (.tuple #[(thenF ⟨a, b, c, d, e, f⟩ ⟨a', b', c', d', e', f'⟩).1.v, .int .i64 (thenF ⟨a, b, c, d, e, f⟩ ⟨a', b', c', d', e', f'⟩).2]) ∧ Below w.heap.size w w' := by
  cases m1 : fineB a b c d e f with
  | false =>
    go_enter Try.func16, Try.ntmps16
    go_wp2_with (go_at_call 18; refine (fine_any _ _ _ _ _ _ _).mono ?_; rintro e w1 ⟨rfl, hb⟩; (try replace hb := undrew hb); obtain ⟨hc, hf⟩ := ch hb; have hz := hb.size; (try simp only [World.size_alloc, World.size_setCell, World.size_drew] at hz); have zw0 : w.heap.size < w1.heap.size := (by omega); have zw1 : w.heap.size + 1 < w1.heap.size := (by omega); have zw2 : w.heap.size + 1 + 1 < w1.heap.size := (by omega))
    exact bodyPost_ret (v := .tuple #[.agg #[.int .i64 0, .int .i64 0, .int .i64 0, .int .i64 0, .int .i64 0, .int .i64 0], .int .i64 1]) (by simp [results, Try.results16, go_sem, *]) rfl ⟨by simp [thenF, M6.fine, M6.zero, m1], by (repeat (first | with_reducible exact Below.refl _ _ | with_reducible apply below_alloc | with_reducible apply below_drew1 | with_reducible assumption | (with_reducible refine Keep.below (by assumption)) | (with_reducible refine bel ?_ (by assumption)) | ((with_reducible refine below_set ?_ ?_); rotate_left; (focus (first | assumption | omega | (simp; done) | (simp; omega))))))⟩
  | true =>
    cases m2 : fineB a' b' c' d' e' f' with
    | false =>
      go_enter Try.func16, Try.ntmps16
      go_wp2_with (go_at_call 18; refine (fine_any _ _ _ _ _ _ _).mono ?_; rintro e w1 ⟨rfl, hb⟩; (try replace hb := undrew hb); obtain ⟨hc, hf⟩ := ch hb; have hz := hb.size; (try simp only [World.size_alloc, World.size_setCell, World.size_drew] at hz); have zw0 : w.heap.size < w1.heap.size := (by omega); have zw1 : w.heap.size + 1 < w1.heap.size := (by omega); have zw2 : w.heap.size + 1 + 1 < w1.heap.size := (by omega))
      exact bodyPost_ret (v := .tuple #[.agg #[.int .i64 0, .int .i64 0, .int .i64 0, .int .i64 0, .int .i64 0, .int .i64 0], .int .i64 1]) (by simp [results, Try.results16, go_sem, *]) rfl ⟨by simp [thenF, M6.fine, M6.zero, m1, m2], by (repeat (first | with_reducible exact Below.refl _ _ | with_reducible apply below_alloc | with_reducible apply below_drew1 | with_reducible assumption | (with_reducible refine Keep.below (by assumption)) | (with_reducible refine bel ?_ (by assumption)) | ((with_reducible refine below_set ?_ ?_); rotate_left; (focus (first | assumption | omega | (simp; done) | (simp; omega))))))⟩
    | true =>
      obtain ⟨⟨p1, p2, p3, p4, p5, p6⟩, p7, p8, p9, p10, p11, p12⟩ := fine_bd m1
      obtain ⟨⟨o1, o2, o3, o4, o5, o6⟩, o7, o8, o9, o10, o11, o12⟩ := fine_bd m2
      obtain ⟨s1, s1'⟩ := sum_bd o1 o2 o3 o4 (x := a) (y := c) (by omega) (by omega) (by omega) (by omega)
      obtain ⟨s2, s2'⟩ := sum_bd o1 o2 o3 o4 (x := b) (y := d) (by omega) (by omega) (by omega) (by omega)
      obtain ⟨s3, s3'⟩ := sum_bd o5 o6 o7 o8 (x := a) (y := c) (by omega) (by omega) (by omega) (by omega)
      obtain ⟨s4, s4'⟩ := sum_bd o5 o6 o7 o8 (x := b) (y := d) (by omega) (by omega) (by omega) (by omega)
      obtain ⟨s5, s5'⟩ := sum_bd o1 o2 o3 o4 (x := e) (y := f) (by omega) (by omega) (by omega) (by omega)
      obtain ⟨s6, s6'⟩ := sum_bd o5 o6 o7 o8 (x := e) (y := f) (by omega) (by omega) (by omega) (by omega)
      obtain ⟨t5, t5'⟩ := near_bd s5 s5'
      obtain ⟨t6, t6'⟩ := near_bd s6 s6'
      have w5 : IntKind.i64.wrap (nearF (a' * e + b' * f) 65536 + e') = nearF (a' * e + b' * f) 65536 + e' := IntWalk.i64_in _ (by omega)
      have w6 : IntKind.i64.wrap (nearF (c' * e + d' * f) 65536 + f') = nearF (c' * e + d' * f) 65536 + f' := IntWalk.i64_in _ (by omega)
      clear t5 t5' t6 t6'
      cases r : fineB (nearF (a' * a + b' * c) 65536) (nearF (a' * b + b' * d) 65536) (nearF (c' * a + d' * c) 65536) (nearF (c' * b + d' * d) 65536) (nearF (a' * e + b' * f) 65536 + e') (nearF (c' * e + d' * f) 65536 + f') with
      | true =>
        go_enter Try.func16, Try.ntmps16
        go_wp2_with (first | (go_at_call 18; refine (fine_any _ _ _ _ _ _ _).mono ?_; rintro e w1 ⟨rfl, hb⟩; (try replace hb := undrew hb); obtain ⟨hc, hf⟩ := ch hb; have hz := hb.size; (try simp only [World.size_alloc, World.size_setCell, World.size_drew] at hz); have zw0 : w.heap.size < w1.heap.size := (by omega); have zw1 : w.heap.size + 1 < w1.heap.size := (by omega); have zw2 : w.heap.size + 1 + 1 < w1.heap.size := (by omega)) | (go_at_call 48; refine (turn_any _ _ _ _ _ _ _ _ _ (by omega) (by omega) (by omega) (by omega) (by omega) (by omega) (by omega) (by omega) (by omega) (by omega) (by omega) (by omega)).mono ?_; rintro e w1 ⟨rfl, hb⟩; (try replace hb := undrew hb); obtain ⟨hc, hf⟩ := ch hb; have hz := hb.size; (try simp only [World.size_alloc, World.size_setCell, World.size_drew] at hz); have zw0 : w.heap.size < w1.heap.size := (by omega); have zw1 : w.heap.size + 1 < w1.heap.size := (by omega); have zw2 : w.heap.size + 1 + 1 < w1.heap.size := (by omega)))
        obtain ⟨ws, rfl⟩ : ∃ ws, ws = w1 := ⟨_, rfl⟩
        have hK : Keep w w ws 2 ws := Keep.start (by (repeat (first | with_reducible exact Below.refl _ _ | with_reducible apply below_alloc | with_reducible apply below_drew1 | with_reducible assumption | (with_reducible refine Keep.below (by assumption)) | (with_reducible refine bel ?_ (by assumption)) | ((with_reducible refine below_set ?_ ?_); rotate_left; (focus (first | assumption | omega | (simp; done) | (simp; omega))))))) (by first | assumption | omega | (simp; done) | (simp; omega))
        refine wp_region_noPanic ?_
        refine wp_region_held_drew (S := fun W_ => (∀ b_ o_, b_ < w.heap.size + 2 → W_.cell? ⟨b_, o_, none⟩ = ws.cell? ⟨b_, o_, none⟩) ∧ w.heap.size + 2 ≤ W_.heap.size ∧ Below w.heap.size w W_) (by kernel_rfl) (show Keep w w ws 2 _ by (repeat (first | with_reducible assumption | with_reducible apply Keep.alloc | with_reducible apply Keep.drew | ((with_reducible refine Keep.set ?_ ?_ ?_); rotate_left; (focus (first | assumption | omega | (simp; done) | (simp; omega))); (focus (first | assumption | omega | (simp; done) | (simp; omega))))))) (fun hHeld => ?_)
        refine wpAnyH_take (i := 0) (oi := { dst := some 48, op := Go.Op.move (Go.Operand.tmp 6), type := 3, pos := "rect.go:212", after := #[], guard := none }) (v := ?_) rfl (by kernel_rfl) (by kernel_rfl) (by kernel_rfl) (fun _ _ _ h => h) (Or.inl ⟨by rfl, ?_⟩) hHeld ?_
        rotate_left
        · intro W_ hSw
          obtain ⟨hS1, hS2, hS3⟩ := hSw
          go_simp
          try with_reducible rfl
        (try simp only [Act.put, List.setIfInBounds_toArray, List.set_cons_zero, List.set_cons_succ])
        refine wpAnyH_take (i := 2) (oi := { dst := some 50, op := Go.Op.move (Go.Operand.tmp 8), type := 3, pos := "rect.go:212", after := #[], guard := none }) (v := ?_) rfl (by kernel_rfl) (by kernel_rfl) (by kernel_rfl) (fun _ _ _ h => h) (Or.inl ⟨by rfl, ?_⟩) hHeld ?_
        rotate_left
        · intro W_ hSw
          obtain ⟨hS1, hS2, hS3⟩ := hSw
          go_simp
          try with_reducible rfl
        (try simp only [Act.put, List.setIfInBounds_toArray, List.set_cons_zero, List.set_cons_succ])
        refine wpAnyH_take (i := 4) (oi := { dst := some 52, op := Go.Op.move (Go.Operand.tmp 7), type := 3, pos := "rect.go:212", after := #[], guard := none }) (v := ?_) rfl (by kernel_rfl) (by kernel_rfl) (by kernel_rfl) (fun _ _ _ h => h) (Or.inl ⟨by rfl, ?_⟩) hHeld ?_
        rotate_left
        · intro W_ hSw
          obtain ⟨hS1, hS2, hS3⟩ := hSw
          go_simp
          try with_reducible rfl
        (try simp only [Act.put, List.setIfInBounds_toArray, List.set_cons_zero, List.set_cons_succ])
        refine wpAnyH_take (i := 6) (oi := { dst := some 54, op := Go.Op.move (Go.Operand.tmp 9), type := 3, pos := "rect.go:212", after := #[], guard := none }) (v := ?_) rfl (by kernel_rfl) (by kernel_rfl) (by kernel_rfl) (fun _ _ _ h => h) (Or.inl ⟨by rfl, ?_⟩) hHeld ?_
        rotate_left
        · intro W_ hSw
          obtain ⟨hS1, hS2, hS3⟩ := hSw
          go_simp
          try with_reducible rfl
        (try simp only [Act.put, List.setIfInBounds_toArray, List.set_cons_zero, List.set_cons_succ])
        refine wpAnyH_take (i := 8) (oi := { dst := some 56, op := Go.Op.move (Go.Operand.tmp 10), type := 3, pos := "rect.go:212", after := #[], guard := none }) (v := ?_) rfl (by kernel_rfl) (by kernel_rfl) (by kernel_rfl) (fun _ _ _ h => h) (Or.inl ⟨by rfl, ?_⟩) hHeld ?_
        rotate_left
        · intro W_ hSw
          obtain ⟨hS1, hS2, hS3⟩ := hSw
          go_simp
          try with_reducible rfl
        (try simp only [Act.put, List.setIfInBounds_toArray, List.set_cons_zero, List.set_cons_succ])
        refine wpAnyH_take (i := 10) (oi := { dst := some 58, op := Go.Op.fieldAddr 37 (Go.Operand.tmp 3) 4, type := 0, pos := "rect.go:212", after := #[], guard := none }) (v := ?_) rfl (by kernel_rfl) (by kernel_rfl) (by kernel_rfl) (fun _ _ _ h => h) (Or.inl ⟨by rfl, ?_⟩) hHeld ?_
        rotate_left
        · intro W_ hSw
          obtain ⟨hS1, hS2, hS3⟩ := hSw
          go_simp
          try with_reducible rfl
        (try simp only [Act.put, List.setIfInBounds_toArray, List.set_cons_zero, List.set_cons_succ])
        refine wpAnyH_take (i := 11) (oi := { dst := some 59, op := Go.Op.load 3 (Go.Operand.tmp 58), type := 3, pos := "rect.go:212", after := #[{ on := 10, ground := Go.Ground.data }], guard := none }) (v := ?_) rfl (by kernel_rfl) (by kernel_rfl) (by kernel_rfl) (fun _ _ _ h => h) (Or.inl ⟨by rfl, ?_⟩) hHeld ?_
        rotate_left
        · intro W_ hSw
          obtain ⟨hS1, hS2, hS3⟩ := hSw
          go_simp
          try with_reducible rfl
        (try simp only [Act.put, List.setIfInBounds_toArray, List.set_cons_zero, List.set_cons_succ])
        refine wpAnyH_take (i := 13) (oi := { dst := some 61, op := Go.Op.move (Go.Operand.tmp 11), type := 3, pos := "rect.go:212", after := #[], guard := none }) (v := ?_) rfl (by kernel_rfl) (by kernel_rfl) (by kernel_rfl) (fun _ _ _ h => h) (Or.inl ⟨by rfl, ?_⟩) hHeld ?_
        rotate_left
        · intro W_ hSw
          obtain ⟨hS1, hS2, hS3⟩ := hSw
          go_simp
          try with_reducible rfl
        (try simp only [Act.put, List.setIfInBounds_toArray, List.set_cons_zero, List.set_cons_succ])
        refine wpAnyH_take (i := 15) (oi := { dst := some 63, op := Go.Op.fieldAddr 37 (Go.Operand.tmp 3) 5, type := 0, pos := "rect.go:212", after := #[], guard := none }) (v := ?_) rfl (by kernel_rfl) (by kernel_rfl) (by kernel_rfl) (fun _ _ _ h => h) (Or.inl ⟨by rfl, ?_⟩) hHeld ?_
        rotate_left
        · intro W_ hSw
          obtain ⟨hS1, hS2, hS3⟩ := hSw
          go_simp
          try with_reducible rfl
        (try simp only [Act.put, List.setIfInBounds_toArray, List.set_cons_zero, List.set_cons_succ])
        refine wpAnyH_take (i := 16) (oi := { dst := some 64, op := Go.Op.load 3 (Go.Operand.tmp 63), type := 3, pos := "rect.go:212", after := #[{ on := 15, ground := Go.Ground.data }], guard := none }) (v := ?_) rfl (by kernel_rfl) (by kernel_rfl) (by kernel_rfl) (fun _ _ _ h => h) (Or.inl ⟨by rfl, ?_⟩) hHeld ?_
        rotate_left
        · intro W_ hSw
          obtain ⟨hS1, hS2, hS3⟩ := hSw
          go_simp
          try with_reducible rfl
        (try simp only [Act.put, List.setIfInBounds_toArray, List.set_cons_zero, List.set_cons_succ])
        refine wpAnyH_ready (rs := [1]) (by kernel_rfl) (by simp) ?_
        refine AllReadyH.cons (o := { dst := some 49, op := Go.Op.call { callee := Go.Callee.value (Go.Operand.func 52), args := #[Go.Operand.tmp 48, Go.Operand.const (Go.Value.int Go.IntKind.i64 65536)], argTypes := #[3, 3] }, type := 3, pos := "rect.go:212", after := #[{ on := 0, ground := Go.Ground.data }], guard := none }) rfl (fun KR hKR => ?_) ?_
        have hS := hHeld
        clear hHeld
        obtain ⟨hS1, hS2, hS3⟩ := hS
        go_simp
        ((try rw [if_pos (show IntKind.i64.wrap 0 = 0 from rfl)]); go_at_call 52; refine (near_any _ _ _ (by omega) (by omega) (by omega) (by omega) (by omega)).mono ?_; rintro e wk1 ⟨rfl, hb⟩; have hK := Keep.next (by (repeat (first | with_reducible assumption | with_reducible apply Keep.alloc | with_reducible apply Keep.drew | ((with_reducible refine Keep.set ?_ ?_ ?_); rotate_left; (focus (first | assumption | omega | (simp; done) | (simp; omega))); (focus (first | assumption | omega | (simp; done) | (simp; omega))))))) hb; (try replace hb := undrew hb); obtain ⟨hc, hf⟩ := ch hb; have hz := hb.size; clear hb; (try simp only [World.size_alloc, World.size_setCell, World.size_drew] at hz); have zw0 : w.heap.size < wk1.heap.size := (by omega); have zw1 : w.heap.size + 1 < wk1.heap.size := (by omega); have zw0 : w.heap.size < wk1.heap.size := (by omega); have zw1 : w.heap.size + 1 < wk1.heap.size := (by omega); have zw2 : w.heap.size + 1 + 1 < wk1.heap.size := (by omega))
        refine hKR.out _ _ (by exact (show Keep w w ws 2 _ by (repeat (first | with_reducible assumption | with_reducible apply Keep.alloc | with_reducible apply Keep.drew | ((with_reducible refine Keep.set ?_ ?_ ?_); rotate_left; (focus (first | assumption | omega | (simp; done) | (simp; omega))); (focus (first | assumption | omega | (simp; done) | (simp; omega)))))))) (fun hHeld => ?_)
        clear hKR KR
        (try simp only [Act.put, List.setIfInBounds_toArray, List.set_cons_zero, List.set_cons_succ])
        rotate_left
        · exact AllReadyH.nil
        refine wpAnyH_ready (rs := [3]) (by kernel_rfl) (by simp) ?_
        refine AllReadyH.cons (o := { dst := some 51, op := Go.Op.call { callee := Go.Callee.value (Go.Operand.func 52), args := #[Go.Operand.tmp 50, Go.Operand.const (Go.Value.int Go.IntKind.i64 65536)], argTypes := #[3, 3] }, type := 3, pos := "rect.go:212", after := #[{ on := 2, ground := Go.Ground.data }, { on := 1, ground := Go.Ground.chain }], guard := none }) rfl (fun KR hKR => ?_) ?_
        have hS := hHeld
        clear hHeld
        obtain ⟨hS1, hS2, hS3⟩ := hS
        go_simp
        ((try rw [if_pos (show IntKind.i64.wrap 0 = 0 from rfl)]); go_at_call 52; refine (near_any _ _ _ (by omega) (by omega) (by omega) (by omega) (by omega)).mono ?_; rintro e wk2 ⟨rfl, hb⟩; have hK := Keep.next (by (repeat (first | with_reducible assumption | with_reducible apply Keep.alloc | with_reducible apply Keep.drew | ((with_reducible refine Keep.set ?_ ?_ ?_); rotate_left; (focus (first | assumption | omega | (simp; done) | (simp; omega))); (focus (first | assumption | omega | (simp; done) | (simp; omega))))))) hb; (try replace hb := undrew hb); obtain ⟨hc, hf⟩ := ch hb; have hz := hb.size; clear hb; (try simp only [World.size_alloc, World.size_setCell, World.size_drew] at hz); have zw0 : w.heap.size < wk2.heap.size := (by omega); have zw1 : w.heap.size + 1 < wk2.heap.size := (by omega); have zw0 : w.heap.size < wk2.heap.size := (by omega); have zw1 : w.heap.size + 1 < wk2.heap.size := (by omega); have zw2 : w.heap.size + 1 + 1 < wk2.heap.size := (by omega))
        refine hKR.out _ _ (by exact (show Keep w w ws 2 _ by (repeat (first | with_reducible assumption | with_reducible apply Keep.alloc | with_reducible apply Keep.drew | ((with_reducible refine Keep.set ?_ ?_ ?_); rotate_left; (focus (first | assumption | omega | (simp; done) | (simp; omega))); (focus (first | assumption | omega | (simp; done) | (simp; omega)))))))) (fun hHeld => ?_)
        clear hKR KR
        (try simp only [Act.put, List.setIfInBounds_toArray, List.set_cons_zero, List.set_cons_succ])
        rotate_left
        · exact AllReadyH.nil
        refine wpAnyH_ready (rs := [5]) (by kernel_rfl) (by simp) ?_
        refine AllReadyH.cons (o := { dst := some 53, op := Go.Op.call { callee := Go.Callee.value (Go.Operand.func 52), args := #[Go.Operand.tmp 52, Go.Operand.const (Go.Value.int Go.IntKind.i64 65536)], argTypes := #[3, 3] }, type := 3, pos := "rect.go:212", after := #[{ on := 4, ground := Go.Ground.data }, { on := 3, ground := Go.Ground.chain }], guard := none }) rfl (fun KR hKR => ?_) ?_
        have hS := hHeld
        clear hHeld
        obtain ⟨hS1, hS2, hS3⟩ := hS
        go_simp
        ((try rw [if_pos (show IntKind.i64.wrap 0 = 0 from rfl)]); go_at_call 52; refine (near_any _ _ _ (by omega) (by omega) (by omega) (by omega) (by omega)).mono ?_; rintro e wk3 ⟨rfl, hb⟩; have hK := Keep.next (by (repeat (first | with_reducible assumption | with_reducible apply Keep.alloc | with_reducible apply Keep.drew | ((with_reducible refine Keep.set ?_ ?_ ?_); rotate_left; (focus (first | assumption | omega | (simp; done) | (simp; omega))); (focus (first | assumption | omega | (simp; done) | (simp; omega))))))) hb; (try replace hb := undrew hb); obtain ⟨hc, hf⟩ := ch hb; have hz := hb.size; clear hb; (try simp only [World.size_alloc, World.size_setCell, World.size_drew] at hz); have zw0 : w.heap.size < wk3.heap.size := (by omega); have zw1 : w.heap.size + 1 < wk3.heap.size := (by omega); have zw0 : w.heap.size < wk3.heap.size := (by omega); have zw1 : w.heap.size + 1 < wk3.heap.size := (by omega); have zw2 : w.heap.size + 1 + 1 < wk3.heap.size := (by omega))
        refine hKR.out _ _ (by exact (show Keep w w ws 2 _ by (repeat (first | with_reducible assumption | with_reducible apply Keep.alloc | with_reducible apply Keep.drew | ((with_reducible refine Keep.set ?_ ?_ ?_); rotate_left; (focus (first | assumption | omega | (simp; done) | (simp; omega))); (focus (first | assumption | omega | (simp; done) | (simp; omega)))))))) (fun hHeld => ?_)
        clear hKR KR
        (try simp only [Act.put, List.setIfInBounds_toArray, List.set_cons_zero, List.set_cons_succ])
        rotate_left
        · exact AllReadyH.nil
        refine wpAnyH_ready (rs := [7]) (by kernel_rfl) (by simp) ?_
        refine AllReadyH.cons (o := { dst := some 55, op := Go.Op.call { callee := Go.Callee.value (Go.Operand.func 52), args := #[Go.Operand.tmp 54, Go.Operand.const (Go.Value.int Go.IntKind.i64 65536)], argTypes := #[3, 3] }, type := 3, pos := "rect.go:212", after := #[{ on := 6, ground := Go.Ground.data }, { on := 5, ground := Go.Ground.chain }], guard := none }) rfl (fun KR hKR => ?_) ?_
        have hS := hHeld
        clear hHeld
        obtain ⟨hS1, hS2, hS3⟩ := hS
        go_simp
        ((try rw [if_pos (show IntKind.i64.wrap 0 = 0 from rfl)]); go_at_call 52; refine (near_any _ _ _ (by omega) (by omega) (by omega) (by omega) (by omega)).mono ?_; rintro e wk4 ⟨rfl, hb⟩; have hK := Keep.next (by (repeat (first | with_reducible assumption | with_reducible apply Keep.alloc | with_reducible apply Keep.drew | ((with_reducible refine Keep.set ?_ ?_ ?_); rotate_left; (focus (first | assumption | omega | (simp; done) | (simp; omega))); (focus (first | assumption | omega | (simp; done) | (simp; omega))))))) hb; (try replace hb := undrew hb); obtain ⟨hc, hf⟩ := ch hb; have hz := hb.size; clear hb; (try simp only [World.size_alloc, World.size_setCell, World.size_drew] at hz); have zw0 : w.heap.size < wk4.heap.size := (by omega); have zw1 : w.heap.size + 1 < wk4.heap.size := (by omega); have zw0 : w.heap.size < wk4.heap.size := (by omega); have zw1 : w.heap.size + 1 < wk4.heap.size := (by omega); have zw2 : w.heap.size + 1 + 1 < wk4.heap.size := (by omega))
        refine hKR.out _ _ (by exact (show Keep w w ws 2 _ by (repeat (first | with_reducible assumption | with_reducible apply Keep.alloc | with_reducible apply Keep.drew | ((with_reducible refine Keep.set ?_ ?_ ?_); rotate_left; (focus (first | assumption | omega | (simp; done) | (simp; omega))); (focus (first | assumption | omega | (simp; done) | (simp; omega)))))))) (fun hHeld => ?_)
        clear hKR KR
        (try simp only [Act.put, List.setIfInBounds_toArray, List.set_cons_zero, List.set_cons_succ])
        rotate_left
        · exact AllReadyH.nil
        refine wpAnyH_ready (rs := [9]) (by kernel_rfl) (by simp) ?_
        refine AllReadyH.cons (o := { dst := some 57, op := Go.Op.call { callee := Go.Callee.value (Go.Operand.func 52), args := #[Go.Operand.tmp 56, Go.Operand.const (Go.Value.int Go.IntKind.i64 65536)], argTypes := #[3, 3] }, type := 3, pos := "rect.go:212", after := #[{ on := 8, ground := Go.Ground.data }, { on := 7, ground := Go.Ground.chain }], guard := none }) rfl (fun KR hKR => ?_) ?_
        have hS := hHeld
        clear hHeld
        obtain ⟨hS1, hS2, hS3⟩ := hS
        go_simp
        ((try rw [if_pos (show IntKind.i64.wrap 0 = 0 from rfl)]); go_at_call 52; refine (near_any _ _ _ (by omega) (by omega) (by omega) (by omega) (by omega)).mono ?_; rintro e wk5 ⟨rfl, hb⟩; have hK := Keep.next (by (repeat (first | with_reducible assumption | with_reducible apply Keep.alloc | with_reducible apply Keep.drew | ((with_reducible refine Keep.set ?_ ?_ ?_); rotate_left; (focus (first | assumption | omega | (simp; done) | (simp; omega))); (focus (first | assumption | omega | (simp; done) | (simp; omega))))))) hb; (try replace hb := undrew hb); obtain ⟨hc, hf⟩ := ch hb; have hz := hb.size; clear hb; (try simp only [World.size_alloc, World.size_setCell, World.size_drew] at hz); have zw0 : w.heap.size < wk5.heap.size := (by omega); have zw1 : w.heap.size + 1 < wk5.heap.size := (by omega); have zw0 : w.heap.size < wk5.heap.size := (by omega); have zw1 : w.heap.size + 1 < wk5.heap.size := (by omega); have zw2 : w.heap.size + 1 + 1 < wk5.heap.size := (by omega))
        refine hKR.out _ _ (by exact (show Keep w w ws 2 _ by (repeat (first | with_reducible assumption | with_reducible apply Keep.alloc | with_reducible apply Keep.drew | ((with_reducible refine Keep.set ?_ ?_ ?_); rotate_left; (focus (first | assumption | omega | (simp; done) | (simp; omega))); (focus (first | assumption | omega | (simp; done) | (simp; omega)))))))) (fun hHeld => ?_)
        clear hKR KR
        (try simp only [Act.put, List.setIfInBounds_toArray, List.set_cons_zero, List.set_cons_succ])
        rotate_left
        · exact AllReadyH.nil
        refine wpAnyH_take (i := 12) (oi := { dst := some 60, op := Go.Op.binOp Go.BinOp.add 3 (Go.Operand.tmp 57) (Go.Operand.tmp 59) 3, type := 3, pos := "rect.go:212", after := #[{ on := 9, ground := Go.Ground.data }, { on := 11, ground := Go.Ground.data }], guard := none }) (v := ?_) rfl (by kernel_rfl) (by kernel_rfl) (by kernel_rfl) (fun _ _ _ h => h) (Or.inl ⟨by rfl, ?_⟩) hHeld ?_
        rotate_left
        · intro W_ hSw
          obtain ⟨hS1, hS2, hS3⟩ := hSw
          go_simp
          try with_reducible rfl
        (try simp only [Act.put, List.setIfInBounds_toArray, List.set_cons_zero, List.set_cons_succ])
        refine wpAnyH_ready (rs := [14]) (by kernel_rfl) (by simp) ?_
        refine AllReadyH.cons (o := { dst := some 62, op := Go.Op.call { callee := Go.Callee.value (Go.Operand.func 52), args := #[Go.Operand.tmp 61, Go.Operand.const (Go.Value.int Go.IntKind.i64 65536)], argTypes := #[3, 3] }, type := 3, pos := "rect.go:212", after := #[{ on := 13, ground := Go.Ground.data }, { on := 9, ground := Go.Ground.chain }], guard := none }) rfl (fun KR hKR => ?_) ?_
        have hS := hHeld
        clear hHeld
        obtain ⟨hS1, hS2, hS3⟩ := hS
        go_simp
        ((try rw [if_pos (show IntKind.i64.wrap 0 = 0 from rfl)]); go_at_call 52; refine (near_any _ _ _ (by omega) (by omega) (by omega) (by omega) (by omega)).mono ?_; rintro e wk6 ⟨rfl, hb⟩; have hK := Keep.next (by (repeat (first | with_reducible assumption | with_reducible apply Keep.alloc | with_reducible apply Keep.drew | ((with_reducible refine Keep.set ?_ ?_ ?_); rotate_left; (focus (first | assumption | omega | (simp; done) | (simp; omega))); (focus (first | assumption | omega | (simp; done) | (simp; omega))))))) hb; (try replace hb := undrew hb); obtain ⟨hc, hf⟩ := ch hb; have hz := hb.size; clear hb; (try simp only [World.size_alloc, World.size_setCell, World.size_drew] at hz); have zw0 : w.heap.size < wk6.heap.size := (by omega); have zw1 : w.heap.size + 1 < wk6.heap.size := (by omega); have zw0 : w.heap.size < wk6.heap.size := (by omega); have zw1 : w.heap.size + 1 < wk6.heap.size := (by omega); have zw2 : w.heap.size + 1 + 1 < wk6.heap.size := (by omega))
        refine hKR.out _ _ (by exact (show Keep w w ws 2 _ by (repeat (first | with_reducible assumption | with_reducible apply Keep.alloc | with_reducible apply Keep.drew | ((with_reducible refine Keep.set ?_ ?_ ?_); rotate_left; (focus (first | assumption | omega | (simp; done) | (simp; omega))); (focus (first | assumption | omega | (simp; done) | (simp; omega)))))))) (fun hHeld => ?_)
        clear hKR KR
        (try simp only [Act.put, List.setIfInBounds_toArray, List.set_cons_zero, List.set_cons_succ])
        rotate_left
        · exact AllReadyH.nil
        refine wpAnyH_take (i := 17) (oi := { dst := some 65, op := Go.Op.binOp Go.BinOp.add 3 (Go.Operand.tmp 62) (Go.Operand.tmp 64) 3, type := 3, pos := "rect.go:212", after := #[{ on := 14, ground := Go.Ground.data }, { on := 16, ground := Go.Ground.data }], guard := none }) (v := ?_) rfl (by kernel_rfl) (by kernel_rfl) (by kernel_rfl) (fun _ _ _ h => h) (Or.inl ⟨by rfl, ?_⟩) hHeld ?_
        rotate_left
        · intro W_ hSw
          obtain ⟨hS1, hS2, hS3⟩ := hSw
          go_simp
          try with_reducible rfl
        (try simp only [Act.put, List.setIfInBounds_toArray, List.set_cons_zero, List.set_cons_succ])
        refine wpAnyH_take (i := 18) (oi := { dst := some 66, op := Go.Op.build 37 #[(0, Go.Operand.tmp 49), (1, Go.Operand.tmp 51), (2, Go.Operand.tmp 53), (3, Go.Operand.tmp 55), (4, Go.Operand.tmp 60), (5, Go.Operand.tmp 65)], type := 37, pos := "rect.go:212", after := #[{ on := 1, ground := Go.Ground.data }, { on := 3, ground := Go.Ground.data }, { on := 5, ground := Go.Ground.data }, { on := 7, ground := Go.Ground.data }, { on := 12, ground := Go.Ground.data }, { on := 17, ground := Go.Ground.data }], guard := none }) (v := ?_) rfl (by kernel_rfl) (by kernel_rfl) (by kernel_rfl) (fun _ _ _ h => h) (Or.inl ⟨by rfl, ?_⟩) hHeld ?_
        rotate_left
        · intro W_ hSw
          obtain ⟨hS1, hS2, hS3⟩ := hSw
          go_simp
          try with_reducible rfl
        (try simp only [Act.put, List.setIfInBounds_toArray, List.set_cons_zero, List.set_cons_succ])
        refine wpAnyH_ready (rs := [19]) (by kernel_rfl) (by simp) ?_
        refine AllReadyH.cons (o := { dst := some 67, op := Go.Op.call { callee := Go.Callee.value (Go.Operand.func 51), args := #[Go.Operand.tmp 66], argTypes := #[37] }, type := 39, pos := "rect.go:212", after := #[{ on := 18, ground := Go.Ground.data }, { on := 14, ground := Go.Ground.chain }], guard := none }) rfl (fun KR hKR => ?_) ?_
        have hS := hHeld
        clear hHeld
        obtain ⟨hS1, hS2, hS3⟩ := hS
        go_simp
        ((try rw [if_pos (show IntKind.i64.wrap 0 = 0 from rfl)]); go_at_call 51; refine (mfine_yes _ _ _ _ _ _ _ r).mono ?_; rintro e wk7 ⟨rfl, hb⟩; have hK := Keep.next (by (repeat (first | with_reducible assumption | with_reducible apply Keep.alloc | with_reducible apply Keep.drew | ((with_reducible refine Keep.set ?_ ?_ ?_); rotate_left; (focus (first | assumption | omega | (simp; done) | (simp; omega))); (focus (first | assumption | omega | (simp; done) | (simp; omega))))))) hb; (try replace hb := undrew hb); obtain ⟨hc, hf⟩ := ch hb; have hz := hb.size; clear hb; (try simp only [World.size_alloc, World.size_setCell, World.size_drew] at hz); have zw0 : w.heap.size < wk7.heap.size := (by omega); have zw1 : w.heap.size + 1 < wk7.heap.size := (by omega); have zw0 : w.heap.size < wk7.heap.size := (by omega); have zw1 : w.heap.size + 1 < wk7.heap.size := (by omega); have zw2 : w.heap.size + 1 + 1 < wk7.heap.size := (by omega))
        refine hKR.out _ _ (by exact (show Keep w w ws 2 _ by (repeat (first | with_reducible assumption | with_reducible apply Keep.alloc | with_reducible apply Keep.drew | ((with_reducible refine Keep.set ?_ ?_ ?_); rotate_left; (focus (first | assumption | omega | (simp; done) | (simp; omega))); (focus (first | assumption | omega | (simp; done) | (simp; omega)))))))) (fun hHeld => ?_)
        clear hKR KR
        (try simp only [Act.put, List.setIfInBounds_toArray, List.set_cons_zero, List.set_cons_succ])
        rotate_left
        · exact AllReadyH.nil
        refine wpAnyH_take (i := 20) (oi := { dst := some 68, op := Go.Op.extract (Go.Operand.tmp 67) 0, type := 37, pos := "rect.go:212", after := #[{ on := 19, ground := Go.Ground.data }], guard := none }) (v := ?_) rfl (by kernel_rfl) (by kernel_rfl) (by kernel_rfl) (fun _ _ _ h => h) (Or.inl ⟨by rfl, ?_⟩) hHeld ?_
        rotate_left
        · intro W_ hSw
          obtain ⟨hS1, hS2, hS3⟩ := hSw
          go_simp
          try with_reducible rfl
        (try simp only [Act.put, List.setIfInBounds_toArray, List.set_cons_zero, List.set_cons_succ])
        refine wpAnyH_take (i := 21) (oi := { dst := some 69, op := Go.Op.extract (Go.Operand.tmp 67) 1, type := 30, pos := "rect.go:212", after := #[{ on := 19, ground := Go.Ground.data }], guard := none }) (v := ?_) rfl (by kernel_rfl) (by kernel_rfl) (by kernel_rfl) (fun _ _ _ h => h) (Or.inl ⟨by rfl, ?_⟩) hHeld ?_
        rotate_left
        · intro W_ hSw
          obtain ⟨hS1, hS2, hS3⟩ := hSw
          go_simp
          try with_reducible rfl
        (try simp only [Act.put, List.setIfInBounds_toArray, List.set_cons_zero, List.set_cons_succ])
        refine wpAnyH_ready (rs := [22]) (by kernel_rfl) (by simp) ?_
        refine AllReadyH.cons (o := { dst := none, op := Go.Op.store 37 (Go.Operand.tmp 4) (Go.Operand.tmp 68), type := 0, pos := "rect.go:212", after := #[{ on := 20, ground := Go.Ground.data }, { on := 19, ground := Go.Ground.chain }, { on := 0, ground := Go.Ground.phase }, { on := 1, ground := Go.Ground.phase }, { on := 2, ground := Go.Ground.phase }, { on := 3, ground := Go.Ground.phase }, { on := 4, ground := Go.Ground.phase }, { on := 5, ground := Go.Ground.phase }, { on := 6, ground := Go.Ground.phase }, { on := 7, ground := Go.Ground.phase }, { on := 8, ground := Go.Ground.phase }, { on := 9, ground := Go.Ground.phase }, { on := 10, ground := Go.Ground.phase }, { on := 11, ground := Go.Ground.phase }, { on := 12, ground := Go.Ground.phase }, { on := 13, ground := Go.Ground.phase }, { on := 14, ground := Go.Ground.phase }, { on := 15, ground := Go.Ground.phase }, { on := 16, ground := Go.Ground.phase }, { on := 17, ground := Go.Ground.phase }, { on := 18, ground := Go.Ground.phase }, { on := 19, ground := Go.Ground.phase }, { on := 20, ground := Go.Ground.phase }, { on := 21, ground := Go.Ground.phase }], guard := none }) rfl (fun KR hKR => ?_) ?_
        have hS := hHeld
        clear hHeld
        obtain ⟨hS1, hS2, hS3⟩ := hS
        go_simp
        refine hKR.out _ _ (by exact (show Keep w w ws 2 _ by (repeat (first | with_reducible assumption | with_reducible apply Keep.alloc | with_reducible apply Keep.drew | ((with_reducible refine Keep.set ?_ ?_ ?_); rotate_left; (focus (first | assumption | omega | (simp; done) | (simp; omega))); (focus (first | assumption | omega | (simp; done) | (simp; omega)))))))) (fun hHeld => ?_)
        clear hKR KR
        (try simp only [Act.put, List.setIfInBounds_toArray, List.set_cons_zero, List.set_cons_succ])
        rotate_left
        · exact AllReadyH.nil
        refine wpAnyH_take (i := 23) (oi := { dst := some 5, op := Go.Op.assign (Go.Operand.tmp 69), type := 30, pos := "rect.go:212", after := #[{ on := 21, ground := Go.Ground.data }, { on := 22, ground := Go.Ground.chain }, { on := 0, ground := Go.Ground.phase }, { on := 1, ground := Go.Ground.phase }, { on := 2, ground := Go.Ground.phase }, { on := 3, ground := Go.Ground.phase }, { on := 4, ground := Go.Ground.phase }, { on := 5, ground := Go.Ground.phase }, { on := 6, ground := Go.Ground.phase }, { on := 7, ground := Go.Ground.phase }, { on := 8, ground := Go.Ground.phase }, { on := 9, ground := Go.Ground.phase }, { on := 10, ground := Go.Ground.phase }, { on := 11, ground := Go.Ground.phase }, { on := 12, ground := Go.Ground.phase }, { on := 13, ground := Go.Ground.phase }, { on := 14, ground := Go.Ground.phase }, { on := 15, ground := Go.Ground.phase }, { on := 16, ground := Go.Ground.phase }, { on := 17, ground := Go.Ground.phase }, { on := 18, ground := Go.Ground.phase }, { on := 19, ground := Go.Ground.phase }, { on := 20, ground := Go.Ground.phase }, { on := 21, ground := Go.Ground.phase }, { on := 22, ground := Go.Ground.phase }], guard := none }) (v := ?_) rfl (by kernel_rfl) (by kernel_rfl) (by kernel_rfl) (fun _ _ _ h => h) (Or.inl ⟨by rfl, ?_⟩) hHeld ?_
        rotate_left
        · intro W_ hSw
          obtain ⟨hS1, hS2, hS3⟩ := hSw
          go_simp
          try with_reducible rfl
        (try simp only [Act.put, List.setIfInBounds_toArray, List.set_cons_zero, List.set_cons_succ])
        refine wpAnyH_done (by kernel_rfl) ?_ _
        refine NoPanic.normal ?_
        go_wp2
        exact bodyPost_ret (v := .tuple #[(afterF ⟨a, b, c, d, e, f⟩ ⟨a', b', c', d', e', f'⟩).v, .int .i64 0]) (by simp [results, Try.results16, go_sem, afterF, *]) rfl ⟨by simp [thenF, M6.fine, m1, m2, afterF, r], by (repeat (first | with_reducible exact Below.refl _ _ | with_reducible apply below_alloc | with_reducible apply below_drew1 | with_reducible assumption | (with_reducible refine Keep.below (by assumption)) | (with_reducible refine bel ?_ (by assumption)) | ((with_reducible refine below_set ?_ ?_); rotate_left; (focus (first | assumption | omega | (simp; done) | (simp; omega))))))⟩
      | false =>
        go_enter Try.func16, Try.ntmps16
        go_wp2_with (first | (go_at_call 18; refine (fine_any _ _ _ _ _ _ _).mono ?_; rintro e w1 ⟨rfl, hb⟩; (try replace hb := undrew hb); obtain ⟨hc, hf⟩ := ch hb; have hz := hb.size; (try simp only [World.size_alloc, World.size_setCell, World.size_drew] at hz); have zw0 : w.heap.size < w1.heap.size := (by omega); have zw1 : w.heap.size + 1 < w1.heap.size := (by omega); have zw2 : w.heap.size + 1 + 1 < w1.heap.size := (by omega)) | (go_at_call 48; refine (turn_any _ _ _ _ _ _ _ _ _ (by omega) (by omega) (by omega) (by omega) (by omega) (by omega) (by omega) (by omega) (by omega) (by omega) (by omega) (by omega)).mono ?_; rintro e w1 ⟨rfl, hb⟩; (try replace hb := undrew hb); obtain ⟨hc, hf⟩ := ch hb; have hz := hb.size; (try simp only [World.size_alloc, World.size_setCell, World.size_drew] at hz); have zw0 : w.heap.size < w1.heap.size := (by omega); have zw1 : w.heap.size + 1 < w1.heap.size := (by omega); have zw2 : w.heap.size + 1 + 1 < w1.heap.size := (by omega)))
        obtain ⟨ws, rfl⟩ : ∃ ws, ws = w1 := ⟨_, rfl⟩
        have hK : Keep w w ws 2 ws := Keep.start (by (repeat (first | with_reducible exact Below.refl _ _ | with_reducible apply below_alloc | with_reducible apply below_drew1 | with_reducible assumption | (with_reducible refine Keep.below (by assumption)) | (with_reducible refine bel ?_ (by assumption)) | ((with_reducible refine below_set ?_ ?_); rotate_left; (focus (first | assumption | omega | (simp; done) | (simp; omega))))))) (by first | assumption | omega | (simp; done) | (simp; omega))
        refine wp_region_noPanic ?_
        refine wp_region_held_drew (S := fun W_ => (∀ b_ o_, b_ < w.heap.size + 2 → W_.cell? ⟨b_, o_, none⟩ = ws.cell? ⟨b_, o_, none⟩) ∧ w.heap.size + 2 ≤ W_.heap.size ∧ Below w.heap.size w W_) (by kernel_rfl) (show Keep w w ws 2 _ by (repeat (first | with_reducible assumption | with_reducible apply Keep.alloc | with_reducible apply Keep.drew | ((with_reducible refine Keep.set ?_ ?_ ?_); rotate_left; (focus (first | assumption | omega | (simp; done) | (simp; omega))); (focus (first | assumption | omega | (simp; done) | (simp; omega))))))) (fun hHeld => ?_)
        refine wpAnyH_take (i := 0) (oi := { dst := some 48, op := Go.Op.move (Go.Operand.tmp 6), type := 3, pos := "rect.go:212", after := #[], guard := none }) (v := ?_) rfl (by kernel_rfl) (by kernel_rfl) (by kernel_rfl) (fun _ _ _ h => h) (Or.inl ⟨by rfl, ?_⟩) hHeld ?_
        rotate_left
        · intro W_ hSw
          obtain ⟨hS1, hS2, hS3⟩ := hSw
          go_simp
          try with_reducible rfl
        (try simp only [Act.put, List.setIfInBounds_toArray, List.set_cons_zero, List.set_cons_succ])
        refine wpAnyH_take (i := 2) (oi := { dst := some 50, op := Go.Op.move (Go.Operand.tmp 8), type := 3, pos := "rect.go:212", after := #[], guard := none }) (v := ?_) rfl (by kernel_rfl) (by kernel_rfl) (by kernel_rfl) (fun _ _ _ h => h) (Or.inl ⟨by rfl, ?_⟩) hHeld ?_
        rotate_left
        · intro W_ hSw
          obtain ⟨hS1, hS2, hS3⟩ := hSw
          go_simp
          try with_reducible rfl
        (try simp only [Act.put, List.setIfInBounds_toArray, List.set_cons_zero, List.set_cons_succ])
        refine wpAnyH_take (i := 4) (oi := { dst := some 52, op := Go.Op.move (Go.Operand.tmp 7), type := 3, pos := "rect.go:212", after := #[], guard := none }) (v := ?_) rfl (by kernel_rfl) (by kernel_rfl) (by kernel_rfl) (fun _ _ _ h => h) (Or.inl ⟨by rfl, ?_⟩) hHeld ?_
        rotate_left
        · intro W_ hSw
          obtain ⟨hS1, hS2, hS3⟩ := hSw
          go_simp
          try with_reducible rfl
        (try simp only [Act.put, List.setIfInBounds_toArray, List.set_cons_zero, List.set_cons_succ])
        refine wpAnyH_take (i := 6) (oi := { dst := some 54, op := Go.Op.move (Go.Operand.tmp 9), type := 3, pos := "rect.go:212", after := #[], guard := none }) (v := ?_) rfl (by kernel_rfl) (by kernel_rfl) (by kernel_rfl) (fun _ _ _ h => h) (Or.inl ⟨by rfl, ?_⟩) hHeld ?_
        rotate_left
        · intro W_ hSw
          obtain ⟨hS1, hS2, hS3⟩ := hSw
          go_simp
          try with_reducible rfl
        (try simp only [Act.put, List.setIfInBounds_toArray, List.set_cons_zero, List.set_cons_succ])
        refine wpAnyH_take (i := 8) (oi := { dst := some 56, op := Go.Op.move (Go.Operand.tmp 10), type := 3, pos := "rect.go:212", after := #[], guard := none }) (v := ?_) rfl (by kernel_rfl) (by kernel_rfl) (by kernel_rfl) (fun _ _ _ h => h) (Or.inl ⟨by rfl, ?_⟩) hHeld ?_
        rotate_left
        · intro W_ hSw
          obtain ⟨hS1, hS2, hS3⟩ := hSw
          go_simp
          try with_reducible rfl
        (try simp only [Act.put, List.setIfInBounds_toArray, List.set_cons_zero, List.set_cons_succ])
        refine wpAnyH_take (i := 10) (oi := { dst := some 58, op := Go.Op.fieldAddr 37 (Go.Operand.tmp 3) 4, type := 0, pos := "rect.go:212", after := #[], guard := none }) (v := ?_) rfl (by kernel_rfl) (by kernel_rfl) (by kernel_rfl) (fun _ _ _ h => h) (Or.inl ⟨by rfl, ?_⟩) hHeld ?_
        rotate_left
        · intro W_ hSw
          obtain ⟨hS1, hS2, hS3⟩ := hSw
          go_simp
          try with_reducible rfl
        (try simp only [Act.put, List.setIfInBounds_toArray, List.set_cons_zero, List.set_cons_succ])
        refine wpAnyH_take (i := 11) (oi := { dst := some 59, op := Go.Op.load 3 (Go.Operand.tmp 58), type := 3, pos := "rect.go:212", after := #[{ on := 10, ground := Go.Ground.data }], guard := none }) (v := ?_) rfl (by kernel_rfl) (by kernel_rfl) (by kernel_rfl) (fun _ _ _ h => h) (Or.inl ⟨by rfl, ?_⟩) hHeld ?_
        rotate_left
        · intro W_ hSw
          obtain ⟨hS1, hS2, hS3⟩ := hSw
          go_simp
          try with_reducible rfl
        (try simp only [Act.put, List.setIfInBounds_toArray, List.set_cons_zero, List.set_cons_succ])
        refine wpAnyH_take (i := 13) (oi := { dst := some 61, op := Go.Op.move (Go.Operand.tmp 11), type := 3, pos := "rect.go:212", after := #[], guard := none }) (v := ?_) rfl (by kernel_rfl) (by kernel_rfl) (by kernel_rfl) (fun _ _ _ h => h) (Or.inl ⟨by rfl, ?_⟩) hHeld ?_
        rotate_left
        · intro W_ hSw
          obtain ⟨hS1, hS2, hS3⟩ := hSw
          go_simp
          try with_reducible rfl
        (try simp only [Act.put, List.setIfInBounds_toArray, List.set_cons_zero, List.set_cons_succ])
        refine wpAnyH_take (i := 15) (oi := { dst := some 63, op := Go.Op.fieldAddr 37 (Go.Operand.tmp 3) 5, type := 0, pos := "rect.go:212", after := #[], guard := none }) (v := ?_) rfl (by kernel_rfl) (by kernel_rfl) (by kernel_rfl) (fun _ _ _ h => h) (Or.inl ⟨by rfl, ?_⟩) hHeld ?_
        rotate_left
        · intro W_ hSw
          obtain ⟨hS1, hS2, hS3⟩ := hSw
          go_simp
          try with_reducible rfl
        (try simp only [Act.put, List.setIfInBounds_toArray, List.set_cons_zero, List.set_cons_succ])
        refine wpAnyH_take (i := 16) (oi := { dst := some 64, op := Go.Op.load 3 (Go.Operand.tmp 63), type := 3, pos := "rect.go:212", after := #[{ on := 15, ground := Go.Ground.data }], guard := none }) (v := ?_) rfl (by kernel_rfl) (by kernel_rfl) (by kernel_rfl) (fun _ _ _ h => h) (Or.inl ⟨by rfl, ?_⟩) hHeld ?_
        rotate_left
        · intro W_ hSw
          obtain ⟨hS1, hS2, hS3⟩ := hSw
          go_simp
          try with_reducible rfl
        (try simp only [Act.put, List.setIfInBounds_toArray, List.set_cons_zero, List.set_cons_succ])
        refine wpAnyH_ready (rs := [1]) (by kernel_rfl) (by simp) ?_
        refine AllReadyH.cons (o := { dst := some 49, op := Go.Op.call { callee := Go.Callee.value (Go.Operand.func 52), args := #[Go.Operand.tmp 48, Go.Operand.const (Go.Value.int Go.IntKind.i64 65536)], argTypes := #[3, 3] }, type := 3, pos := "rect.go:212", after := #[{ on := 0, ground := Go.Ground.data }], guard := none }) rfl (fun KR hKR => ?_) ?_
        have hS := hHeld
        clear hHeld
        obtain ⟨hS1, hS2, hS3⟩ := hS
        go_simp
        ((try rw [if_pos (show IntKind.i64.wrap 0 = 0 from rfl)]); go_at_call 52; refine (near_any _ _ _ (by omega) (by omega) (by omega) (by omega) (by omega)).mono ?_; rintro e wk1 ⟨rfl, hb⟩; have hK := Keep.next (by (repeat (first | with_reducible assumption | with_reducible apply Keep.alloc | with_reducible apply Keep.drew | ((with_reducible refine Keep.set ?_ ?_ ?_); rotate_left; (focus (first | assumption | omega | (simp; done) | (simp; omega))); (focus (first | assumption | omega | (simp; done) | (simp; omega))))))) hb; (try replace hb := undrew hb); obtain ⟨hc, hf⟩ := ch hb; have hz := hb.size; clear hb; (try simp only [World.size_alloc, World.size_setCell, World.size_drew] at hz); have zw0 : w.heap.size < wk1.heap.size := (by omega); have zw1 : w.heap.size + 1 < wk1.heap.size := (by omega); have zw0 : w.heap.size < wk1.heap.size := (by omega); have zw1 : w.heap.size + 1 < wk1.heap.size := (by omega); have zw2 : w.heap.size + 1 + 1 < wk1.heap.size := (by omega))
        refine hKR.out _ _ (by exact (show Keep w w ws 2 _ by (repeat (first | with_reducible assumption | with_reducible apply Keep.alloc | with_reducible apply Keep.drew | ((with_reducible refine Keep.set ?_ ?_ ?_); rotate_left; (focus (first | assumption | omega | (simp; done) | (simp; omega))); (focus (first | assumption | omega | (simp; done) | (simp; omega)))))))) (fun hHeld => ?_)
        clear hKR KR
        (try simp only [Act.put, List.setIfInBounds_toArray, List.set_cons_zero, List.set_cons_succ])
        rotate_left
        · exact AllReadyH.nil
        refine wpAnyH_ready (rs := [3]) (by kernel_rfl) (by simp) ?_
        refine AllReadyH.cons (o := { dst := some 51, op := Go.Op.call { callee := Go.Callee.value (Go.Operand.func 52), args := #[Go.Operand.tmp 50, Go.Operand.const (Go.Value.int Go.IntKind.i64 65536)], argTypes := #[3, 3] }, type := 3, pos := "rect.go:212", after := #[{ on := 2, ground := Go.Ground.data }, { on := 1, ground := Go.Ground.chain }], guard := none }) rfl (fun KR hKR => ?_) ?_
        have hS := hHeld
        clear hHeld
        obtain ⟨hS1, hS2, hS3⟩ := hS
        go_simp
        ((try rw [if_pos (show IntKind.i64.wrap 0 = 0 from rfl)]); go_at_call 52; refine (near_any _ _ _ (by omega) (by omega) (by omega) (by omega) (by omega)).mono ?_; rintro e wk2 ⟨rfl, hb⟩; have hK := Keep.next (by (repeat (first | with_reducible assumption | with_reducible apply Keep.alloc | with_reducible apply Keep.drew | ((with_reducible refine Keep.set ?_ ?_ ?_); rotate_left; (focus (first | assumption | omega | (simp; done) | (simp; omega))); (focus (first | assumption | omega | (simp; done) | (simp; omega))))))) hb; (try replace hb := undrew hb); obtain ⟨hc, hf⟩ := ch hb; have hz := hb.size; clear hb; (try simp only [World.size_alloc, World.size_setCell, World.size_drew] at hz); have zw0 : w.heap.size < wk2.heap.size := (by omega); have zw1 : w.heap.size + 1 < wk2.heap.size := (by omega); have zw0 : w.heap.size < wk2.heap.size := (by omega); have zw1 : w.heap.size + 1 < wk2.heap.size := (by omega); have zw2 : w.heap.size + 1 + 1 < wk2.heap.size := (by omega))
        refine hKR.out _ _ (by exact (show Keep w w ws 2 _ by (repeat (first | with_reducible assumption | with_reducible apply Keep.alloc | with_reducible apply Keep.drew | ((with_reducible refine Keep.set ?_ ?_ ?_); rotate_left; (focus (first | assumption | omega | (simp; done) | (simp; omega))); (focus (first | assumption | omega | (simp; done) | (simp; omega)))))))) (fun hHeld => ?_)
        clear hKR KR
        (try simp only [Act.put, List.setIfInBounds_toArray, List.set_cons_zero, List.set_cons_succ])
        rotate_left
        · exact AllReadyH.nil
        refine wpAnyH_ready (rs := [5]) (by kernel_rfl) (by simp) ?_
        refine AllReadyH.cons (o := { dst := some 53, op := Go.Op.call { callee := Go.Callee.value (Go.Operand.func 52), args := #[Go.Operand.tmp 52, Go.Operand.const (Go.Value.int Go.IntKind.i64 65536)], argTypes := #[3, 3] }, type := 3, pos := "rect.go:212", after := #[{ on := 4, ground := Go.Ground.data }, { on := 3, ground := Go.Ground.chain }], guard := none }) rfl (fun KR hKR => ?_) ?_
        have hS := hHeld
        clear hHeld
        obtain ⟨hS1, hS2, hS3⟩ := hS
        go_simp
        ((try rw [if_pos (show IntKind.i64.wrap 0 = 0 from rfl)]); go_at_call 52; refine (near_any _ _ _ (by omega) (by omega) (by omega) (by omega) (by omega)).mono ?_; rintro e wk3 ⟨rfl, hb⟩; have hK := Keep.next (by (repeat (first | with_reducible assumption | with_reducible apply Keep.alloc | with_reducible apply Keep.drew | ((with_reducible refine Keep.set ?_ ?_ ?_); rotate_left; (focus (first | assumption | omega | (simp; done) | (simp; omega))); (focus (first | assumption | omega | (simp; done) | (simp; omega))))))) hb; (try replace hb := undrew hb); obtain ⟨hc, hf⟩ := ch hb; have hz := hb.size; clear hb; (try simp only [World.size_alloc, World.size_setCell, World.size_drew] at hz); have zw0 : w.heap.size < wk3.heap.size := (by omega); have zw1 : w.heap.size + 1 < wk3.heap.size := (by omega); have zw0 : w.heap.size < wk3.heap.size := (by omega); have zw1 : w.heap.size + 1 < wk3.heap.size := (by omega); have zw2 : w.heap.size + 1 + 1 < wk3.heap.size := (by omega))
        refine hKR.out _ _ (by exact (show Keep w w ws 2 _ by (repeat (first | with_reducible assumption | with_reducible apply Keep.alloc | with_reducible apply Keep.drew | ((with_reducible refine Keep.set ?_ ?_ ?_); rotate_left; (focus (first | assumption | omega | (simp; done) | (simp; omega))); (focus (first | assumption | omega | (simp; done) | (simp; omega)))))))) (fun hHeld => ?_)
        clear hKR KR
        (try simp only [Act.put, List.setIfInBounds_toArray, List.set_cons_zero, List.set_cons_succ])
        rotate_left
        · exact AllReadyH.nil
        refine wpAnyH_ready (rs := [7]) (by kernel_rfl) (by simp) ?_
        refine AllReadyH.cons (o := { dst := some 55, op := Go.Op.call { callee := Go.Callee.value (Go.Operand.func 52), args := #[Go.Operand.tmp 54, Go.Operand.const (Go.Value.int Go.IntKind.i64 65536)], argTypes := #[3, 3] }, type := 3, pos := "rect.go:212", after := #[{ on := 6, ground := Go.Ground.data }, { on := 5, ground := Go.Ground.chain }], guard := none }) rfl (fun KR hKR => ?_) ?_
        have hS := hHeld
        clear hHeld
        obtain ⟨hS1, hS2, hS3⟩ := hS
        go_simp
        ((try rw [if_pos (show IntKind.i64.wrap 0 = 0 from rfl)]); go_at_call 52; refine (near_any _ _ _ (by omega) (by omega) (by omega) (by omega) (by omega)).mono ?_; rintro e wk4 ⟨rfl, hb⟩; have hK := Keep.next (by (repeat (first | with_reducible assumption | with_reducible apply Keep.alloc | with_reducible apply Keep.drew | ((with_reducible refine Keep.set ?_ ?_ ?_); rotate_left; (focus (first | assumption | omega | (simp; done) | (simp; omega))); (focus (first | assumption | omega | (simp; done) | (simp; omega))))))) hb; (try replace hb := undrew hb); obtain ⟨hc, hf⟩ := ch hb; have hz := hb.size; clear hb; (try simp only [World.size_alloc, World.size_setCell, World.size_drew] at hz); have zw0 : w.heap.size < wk4.heap.size := (by omega); have zw1 : w.heap.size + 1 < wk4.heap.size := (by omega); have zw0 : w.heap.size < wk4.heap.size := (by omega); have zw1 : w.heap.size + 1 < wk4.heap.size := (by omega); have zw2 : w.heap.size + 1 + 1 < wk4.heap.size := (by omega))
        refine hKR.out _ _ (by exact (show Keep w w ws 2 _ by (repeat (first | with_reducible assumption | with_reducible apply Keep.alloc | with_reducible apply Keep.drew | ((with_reducible refine Keep.set ?_ ?_ ?_); rotate_left; (focus (first | assumption | omega | (simp; done) | (simp; omega))); (focus (first | assumption | omega | (simp; done) | (simp; omega)))))))) (fun hHeld => ?_)
        clear hKR KR
        (try simp only [Act.put, List.setIfInBounds_toArray, List.set_cons_zero, List.set_cons_succ])
        rotate_left
        · exact AllReadyH.nil
        refine wpAnyH_ready (rs := [9]) (by kernel_rfl) (by simp) ?_
        refine AllReadyH.cons (o := { dst := some 57, op := Go.Op.call { callee := Go.Callee.value (Go.Operand.func 52), args := #[Go.Operand.tmp 56, Go.Operand.const (Go.Value.int Go.IntKind.i64 65536)], argTypes := #[3, 3] }, type := 3, pos := "rect.go:212", after := #[{ on := 8, ground := Go.Ground.data }, { on := 7, ground := Go.Ground.chain }], guard := none }) rfl (fun KR hKR => ?_) ?_
        have hS := hHeld
        clear hHeld
        obtain ⟨hS1, hS2, hS3⟩ := hS
        go_simp
        ((try rw [if_pos (show IntKind.i64.wrap 0 = 0 from rfl)]); go_at_call 52; refine (near_any _ _ _ (by omega) (by omega) (by omega) (by omega) (by omega)).mono ?_; rintro e wk5 ⟨rfl, hb⟩; have hK := Keep.next (by (repeat (first | with_reducible assumption | with_reducible apply Keep.alloc | with_reducible apply Keep.drew | ((with_reducible refine Keep.set ?_ ?_ ?_); rotate_left; (focus (first | assumption | omega | (simp; done) | (simp; omega))); (focus (first | assumption | omega | (simp; done) | (simp; omega))))))) hb; (try replace hb := undrew hb); obtain ⟨hc, hf⟩ := ch hb; have hz := hb.size; clear hb; (try simp only [World.size_alloc, World.size_setCell, World.size_drew] at hz); have zw0 : w.heap.size < wk5.heap.size := (by omega); have zw1 : w.heap.size + 1 < wk5.heap.size := (by omega); have zw0 : w.heap.size < wk5.heap.size := (by omega); have zw1 : w.heap.size + 1 < wk5.heap.size := (by omega); have zw2 : w.heap.size + 1 + 1 < wk5.heap.size := (by omega))
        refine hKR.out _ _ (by exact (show Keep w w ws 2 _ by (repeat (first | with_reducible assumption | with_reducible apply Keep.alloc | with_reducible apply Keep.drew | ((with_reducible refine Keep.set ?_ ?_ ?_); rotate_left; (focus (first | assumption | omega | (simp; done) | (simp; omega))); (focus (first | assumption | omega | (simp; done) | (simp; omega)))))))) (fun hHeld => ?_)
        clear hKR KR
        (try simp only [Act.put, List.setIfInBounds_toArray, List.set_cons_zero, List.set_cons_succ])
        rotate_left
        · exact AllReadyH.nil
        refine wpAnyH_take (i := 12) (oi := { dst := some 60, op := Go.Op.binOp Go.BinOp.add 3 (Go.Operand.tmp 57) (Go.Operand.tmp 59) 3, type := 3, pos := "rect.go:212", after := #[{ on := 9, ground := Go.Ground.data }, { on := 11, ground := Go.Ground.data }], guard := none }) (v := ?_) rfl (by kernel_rfl) (by kernel_rfl) (by kernel_rfl) (fun _ _ _ h => h) (Or.inl ⟨by rfl, ?_⟩) hHeld ?_
        rotate_left
        · intro W_ hSw
          obtain ⟨hS1, hS2, hS3⟩ := hSw
          go_simp
          try with_reducible rfl
        (try simp only [Act.put, List.setIfInBounds_toArray, List.set_cons_zero, List.set_cons_succ])
        refine wpAnyH_ready (rs := [14]) (by kernel_rfl) (by simp) ?_
        refine AllReadyH.cons (o := { dst := some 62, op := Go.Op.call { callee := Go.Callee.value (Go.Operand.func 52), args := #[Go.Operand.tmp 61, Go.Operand.const (Go.Value.int Go.IntKind.i64 65536)], argTypes := #[3, 3] }, type := 3, pos := "rect.go:212", after := #[{ on := 13, ground := Go.Ground.data }, { on := 9, ground := Go.Ground.chain }], guard := none }) rfl (fun KR hKR => ?_) ?_
        have hS := hHeld
        clear hHeld
        obtain ⟨hS1, hS2, hS3⟩ := hS
        go_simp
        ((try rw [if_pos (show IntKind.i64.wrap 0 = 0 from rfl)]); go_at_call 52; refine (near_any _ _ _ (by omega) (by omega) (by omega) (by omega) (by omega)).mono ?_; rintro e wk6 ⟨rfl, hb⟩; have hK := Keep.next (by (repeat (first | with_reducible assumption | with_reducible apply Keep.alloc | with_reducible apply Keep.drew | ((with_reducible refine Keep.set ?_ ?_ ?_); rotate_left; (focus (first | assumption | omega | (simp; done) | (simp; omega))); (focus (first | assumption | omega | (simp; done) | (simp; omega))))))) hb; (try replace hb := undrew hb); obtain ⟨hc, hf⟩ := ch hb; have hz := hb.size; clear hb; (try simp only [World.size_alloc, World.size_setCell, World.size_drew] at hz); have zw0 : w.heap.size < wk6.heap.size := (by omega); have zw1 : w.heap.size + 1 < wk6.heap.size := (by omega); have zw0 : w.heap.size < wk6.heap.size := (by omega); have zw1 : w.heap.size + 1 < wk6.heap.size := (by omega); have zw2 : w.heap.size + 1 + 1 < wk6.heap.size := (by omega))
        refine hKR.out _ _ (by exact (show Keep w w ws 2 _ by (repeat (first | with_reducible assumption | with_reducible apply Keep.alloc | with_reducible apply Keep.drew | ((with_reducible refine Keep.set ?_ ?_ ?_); rotate_left; (focus (first | assumption | omega | (simp; done) | (simp; omega))); (focus (first | assumption | omega | (simp; done) | (simp; omega)))))))) (fun hHeld => ?_)
        clear hKR KR
        (try simp only [Act.put, List.setIfInBounds_toArray, List.set_cons_zero, List.set_cons_succ])
        rotate_left
        · exact AllReadyH.nil
        refine wpAnyH_take (i := 17) (oi := { dst := some 65, op := Go.Op.binOp Go.BinOp.add 3 (Go.Operand.tmp 62) (Go.Operand.tmp 64) 3, type := 3, pos := "rect.go:212", after := #[{ on := 14, ground := Go.Ground.data }, { on := 16, ground := Go.Ground.data }], guard := none }) (v := ?_) rfl (by kernel_rfl) (by kernel_rfl) (by kernel_rfl) (fun _ _ _ h => h) (Or.inl ⟨by rfl, ?_⟩) hHeld ?_
        rotate_left
        · intro W_ hSw
          obtain ⟨hS1, hS2, hS3⟩ := hSw
          go_simp
          try with_reducible rfl
        (try simp only [Act.put, List.setIfInBounds_toArray, List.set_cons_zero, List.set_cons_succ])
        refine wpAnyH_take (i := 18) (oi := { dst := some 66, op := Go.Op.build 37 #[(0, Go.Operand.tmp 49), (1, Go.Operand.tmp 51), (2, Go.Operand.tmp 53), (3, Go.Operand.tmp 55), (4, Go.Operand.tmp 60), (5, Go.Operand.tmp 65)], type := 37, pos := "rect.go:212", after := #[{ on := 1, ground := Go.Ground.data }, { on := 3, ground := Go.Ground.data }, { on := 5, ground := Go.Ground.data }, { on := 7, ground := Go.Ground.data }, { on := 12, ground := Go.Ground.data }, { on := 17, ground := Go.Ground.data }], guard := none }) (v := ?_) rfl (by kernel_rfl) (by kernel_rfl) (by kernel_rfl) (fun _ _ _ h => h) (Or.inl ⟨by rfl, ?_⟩) hHeld ?_
        rotate_left
        · intro W_ hSw
          obtain ⟨hS1, hS2, hS3⟩ := hSw
          go_simp
          try with_reducible rfl
        (try simp only [Act.put, List.setIfInBounds_toArray, List.set_cons_zero, List.set_cons_succ])
        refine wpAnyH_ready (rs := [19]) (by kernel_rfl) (by simp) ?_
        refine AllReadyH.cons (o := { dst := some 67, op := Go.Op.call { callee := Go.Callee.value (Go.Operand.func 51), args := #[Go.Operand.tmp 66], argTypes := #[37] }, type := 39, pos := "rect.go:212", after := #[{ on := 18, ground := Go.Ground.data }, { on := 14, ground := Go.Ground.chain }], guard := none }) rfl (fun KR hKR => ?_) ?_
        have hS := hHeld
        clear hHeld
        obtain ⟨hS1, hS2, hS3⟩ := hS
        go_simp
        ((try rw [if_pos (show IntKind.i64.wrap 0 = 0 from rfl)]); go_at_call 51; refine (mfine_no _ _ _ _ _ _ _ r).mono ?_; rintro e wk7 ⟨rfl, hb⟩; have hK := Keep.next (by (repeat (first | with_reducible assumption | with_reducible apply Keep.alloc | with_reducible apply Keep.drew | ((with_reducible refine Keep.set ?_ ?_ ?_); rotate_left; (focus (first | assumption | omega | (simp; done) | (simp; omega))); (focus (first | assumption | omega | (simp; done) | (simp; omega))))))) hb; (try replace hb := undrew hb); obtain ⟨hc, hf⟩ := ch hb; have hz := hb.size; clear hb; (try simp only [World.size_alloc, World.size_setCell, World.size_drew] at hz); have zw0 : w.heap.size < wk7.heap.size := (by omega); have zw1 : w.heap.size + 1 < wk7.heap.size := (by omega); have zw0 : w.heap.size < wk7.heap.size := (by omega); have zw1 : w.heap.size + 1 < wk7.heap.size := (by omega); have zw2 : w.heap.size + 1 + 1 < wk7.heap.size := (by omega))
        refine hKR.out _ _ (by exact (show Keep w w ws 2 _ by (repeat (first | with_reducible assumption | with_reducible apply Keep.alloc | with_reducible apply Keep.drew | ((with_reducible refine Keep.set ?_ ?_ ?_); rotate_left; (focus (first | assumption | omega | (simp; done) | (simp; omega))); (focus (first | assumption | omega | (simp; done) | (simp; omega)))))))) (fun hHeld => ?_)
        clear hKR KR
        (try simp only [Act.put, List.setIfInBounds_toArray, List.set_cons_zero, List.set_cons_succ])
        rotate_left
        · exact AllReadyH.nil
        refine wpAnyH_take (i := 20) (oi := { dst := some 68, op := Go.Op.extract (Go.Operand.tmp 67) 0, type := 37, pos := "rect.go:212", after := #[{ on := 19, ground := Go.Ground.data }], guard := none }) (v := ?_) rfl (by kernel_rfl) (by kernel_rfl) (by kernel_rfl) (fun _ _ _ h => h) (Or.inl ⟨by rfl, ?_⟩) hHeld ?_
        rotate_left
        · intro W_ hSw
          obtain ⟨hS1, hS2, hS3⟩ := hSw
          go_simp
          try with_reducible rfl
        (try simp only [Act.put, List.setIfInBounds_toArray, List.set_cons_zero, List.set_cons_succ])
        refine wpAnyH_take (i := 21) (oi := { dst := some 69, op := Go.Op.extract (Go.Operand.tmp 67) 1, type := 30, pos := "rect.go:212", after := #[{ on := 19, ground := Go.Ground.data }], guard := none }) (v := ?_) rfl (by kernel_rfl) (by kernel_rfl) (by kernel_rfl) (fun _ _ _ h => h) (Or.inl ⟨by rfl, ?_⟩) hHeld ?_
        rotate_left
        · intro W_ hSw
          obtain ⟨hS1, hS2, hS3⟩ := hSw
          go_simp
          try with_reducible rfl
        (try simp only [Act.put, List.setIfInBounds_toArray, List.set_cons_zero, List.set_cons_succ])
        refine wpAnyH_ready (rs := [22]) (by kernel_rfl) (by simp) ?_
        refine AllReadyH.cons (o := { dst := none, op := Go.Op.store 37 (Go.Operand.tmp 4) (Go.Operand.tmp 68), type := 0, pos := "rect.go:212", after := #[{ on := 20, ground := Go.Ground.data }, { on := 19, ground := Go.Ground.chain }, { on := 0, ground := Go.Ground.phase }, { on := 1, ground := Go.Ground.phase }, { on := 2, ground := Go.Ground.phase }, { on := 3, ground := Go.Ground.phase }, { on := 4, ground := Go.Ground.phase }, { on := 5, ground := Go.Ground.phase }, { on := 6, ground := Go.Ground.phase }, { on := 7, ground := Go.Ground.phase }, { on := 8, ground := Go.Ground.phase }, { on := 9, ground := Go.Ground.phase }, { on := 10, ground := Go.Ground.phase }, { on := 11, ground := Go.Ground.phase }, { on := 12, ground := Go.Ground.phase }, { on := 13, ground := Go.Ground.phase }, { on := 14, ground := Go.Ground.phase }, { on := 15, ground := Go.Ground.phase }, { on := 16, ground := Go.Ground.phase }, { on := 17, ground := Go.Ground.phase }, { on := 18, ground := Go.Ground.phase }, { on := 19, ground := Go.Ground.phase }, { on := 20, ground := Go.Ground.phase }, { on := 21, ground := Go.Ground.phase }], guard := none }) rfl (fun KR hKR => ?_) ?_
        have hS := hHeld
        clear hHeld
        obtain ⟨hS1, hS2, hS3⟩ := hS
        go_simp
        refine hKR.out _ _ (by exact (show Keep w w ws 2 _ by (repeat (first | with_reducible assumption | with_reducible apply Keep.alloc | with_reducible apply Keep.drew | ((with_reducible refine Keep.set ?_ ?_ ?_); rotate_left; (focus (first | assumption | omega | (simp; done) | (simp; omega))); (focus (first | assumption | omega | (simp; done) | (simp; omega)))))))) (fun hHeld => ?_)
        clear hKR KR
        (try simp only [Act.put, List.setIfInBounds_toArray, List.set_cons_zero, List.set_cons_succ])
        rotate_left
        · exact AllReadyH.nil
        refine wpAnyH_take (i := 23) (oi := { dst := some 5, op := Go.Op.assign (Go.Operand.tmp 69), type := 30, pos := "rect.go:212", after := #[{ on := 21, ground := Go.Ground.data }, { on := 22, ground := Go.Ground.chain }, { on := 0, ground := Go.Ground.phase }, { on := 1, ground := Go.Ground.phase }, { on := 2, ground := Go.Ground.phase }, { on := 3, ground := Go.Ground.phase }, { on := 4, ground := Go.Ground.phase }, { on := 5, ground := Go.Ground.phase }, { on := 6, ground := Go.Ground.phase }, { on := 7, ground := Go.Ground.phase }, { on := 8, ground := Go.Ground.phase }, { on := 9, ground := Go.Ground.phase }, { on := 10, ground := Go.Ground.phase }, { on := 11, ground := Go.Ground.phase }, { on := 12, ground := Go.Ground.phase }, { on := 13, ground := Go.Ground.phase }, { on := 14, ground := Go.Ground.phase }, { on := 15, ground := Go.Ground.phase }, { on := 16, ground := Go.Ground.phase }, { on := 17, ground := Go.Ground.phase }, { on := 18, ground := Go.Ground.phase }, { on := 19, ground := Go.Ground.phase }, { on := 20, ground := Go.Ground.phase }, { on := 21, ground := Go.Ground.phase }, { on := 22, ground := Go.Ground.phase }], guard := none }) (v := ?_) rfl (by kernel_rfl) (by kernel_rfl) (by kernel_rfl) (fun _ _ _ h => h) (Or.inl ⟨by rfl, ?_⟩) hHeld ?_
        rotate_left
        · intro W_ hSw
          obtain ⟨hS1, hS2, hS3⟩ := hSw
          go_simp
          try with_reducible rfl
        (try simp only [Act.put, List.setIfInBounds_toArray, List.set_cons_zero, List.set_cons_succ])
        refine wpAnyH_done (by kernel_rfl) ?_ _
        refine NoPanic.normal ?_
        go_wp2
        exact bodyPost_ret (v := .tuple #[.agg #[.int .i64 0, .int .i64 0, .int .i64 0, .int .i64 0, .int .i64 0, .int .i64 0], .int .i64 30]) (by simp [results, Try.results16, go_sem, *]) rfl ⟨by simp [thenF, M6.fine, M6.zero, m1, m2, afterF, r], by (repeat (first | with_reducible exact Below.refl _ _ | with_reducible apply below_alloc | with_reducible apply below_drew1 | with_reducible assumption | (with_reducible refine Keep.below (by assumption)) | (with_reducible refine bel ?_ (by assumption)) | ((with_reducible refine below_set ?_ ?_); rotate_left; (focus (first | assumption | omega | (simp; done) | (simp; omega))))))⟩
end Go.Proofs.Ytjekoaodgdodjaa
