/- Walks of rect.Join, Fine, turn, down, Point. -/
import Derived.Test.YtjekoaodgdodjaaC
set_option linter.unusedVariables false
set_option linter.unusedSimpArgs false
namespace Go.Proofs.Ytjekoaodgdodjaa
open Go.RowKit

def fineB (a b c d e f : Int) : Bool := inB a 16777216 && inB b 16777216 && inB c 16777216 && inB d 16777216 && inB e 4294967296 && inB f 4294967296
set_option maxHeartbeats 1000000 in
theorem fine_any (a b c d e f : Int) (w : World) :
    Calls Try.prog 18 #[.agg #[.int .i64 a, .int .i64 b, .int .i64 c, .int .i64 d, .int .i64 e, .int .i64 f]] w fun r w' => r = .returned (.bool (fineB a b c d e f)) ∧ Below w.heap.size w w' := by
  have i0 : ∀ W : World, (Instr.index 85 (.agg #[.int .i64 a, .int .i64 b, .int .i64 c, .int .i64 d]) (.int .i64 0)).run Try.prog W = .ok (.int .i64 a) W := fun _ => by kernel_rfl
  have i1 : ∀ W : World, (Instr.index 85 (.agg #[.int .i64 a, .int .i64 b, .int .i64 c, .int .i64 d]) (.int .i64 1)).run Try.prog W = .ok (.int .i64 b) W := fun _ => by kernel_rfl
  have i2 : ∀ W : World, (Instr.index 85 (.agg #[.int .i64 a, .int .i64 b, .int .i64 c, .int .i64 d]) (.int .i64 2)).run Try.prog W = .ok (.int .i64 c) W := fun _ => by kernel_rfl
  have i3 : ∀ W : World, (Instr.index 85 (.agg #[.int .i64 a, .int .i64 b, .int .i64 c, .int .i64 d]) (.int .i64 3)).run Try.prog W = .ok (.int .i64 d) W := fun _ => by kernel_rfl
  go_enter Try.func18, Try.ntmps18
  go_wp2
  go_loop [14] (fun t => ∃ k : Nat, k ≤ 4 ∧ t = .int .i64 k ∧ (1 ≤ k → inB a 16777216 = true) ∧ (2 ≤ k → inB b 16777216 = true) ∧ (3 ≤ k → inB c 16777216 = true) ∧ (4 ≤ k → inB d 16777216 = true)) (fun t => 4 - (intOf t).toNat)
  case atStart => exact ⟨0, by omega, rfl, by omega, by omega, by omega, by omega⟩
  case round =>
    obtain ⟨k, hk, rfl, h1, h2, h3, h4⟩ := hrel
    rcases (show k = 0 ∨ k = 1 ∨ k = 2 ∨ k = 3 ∨ k = 4 by omega) with rfl | rfl | rfl | rfl | rfl
    · clear h1 h2 h3 h4
      cases q : inB a 16777216 with
      | true =>
        go_wp2_with (go_at_call 39; refine (in_any _ _ _ (by omega) (by omega)).mono ?_; rintro e w1 ⟨rfl, rfl⟩)
        go_round
        case rel => exact ⟨1, by omega, rfl, (by intro _; first | trivial | assumption), by omega, by omega, by omega⟩
        case measure => simp [intOf]
      | false =>
        go_wp2_with (go_at_call 39; refine (in_any _ _ _ (by omega) (by omega)).mono ?_; rintro e w1 ⟨rfl, rfl⟩)
        go_ret
        exact ⟨ret_bool (by simp [fineB, q]), by (repeat (first | with_reducible exact Below.refl _ _ | with_reducible apply below_alloc | with_reducible apply below_drew1 | with_reducible assumption | (with_reducible refine Keep.below (by assumption)) | (with_reducible refine bel ?_ (by assumption)) | ((with_reducible refine below_set ?_ ?_); rotate_left; (focus (first | assumption | omega | (simp; done) | (simp; omega))))))⟩
    · have q1 := h1 (by omega)
      clear h1 h2 h3 h4
      cases q : inB b 16777216 with
      | true =>
        go_wp2_with (go_at_call 39; refine (in_any _ _ _ (by omega) (by omega)).mono ?_; rintro e w1 ⟨rfl, rfl⟩)
        go_round
        case rel => exact ⟨2, by omega, rfl, (by intro _; first | trivial | assumption), (by intro _; first | trivial | assumption), by omega, by omega⟩
        case measure => simp [intOf]
      | false =>
        go_wp2_with (go_at_call 39; refine (in_any _ _ _ (by omega) (by omega)).mono ?_; rintro e w1 ⟨rfl, rfl⟩)
        go_ret
        exact ⟨ret_bool (by simp [fineB, q]), by (repeat (first | with_reducible exact Below.refl _ _ | with_reducible apply below_alloc | with_reducible apply below_drew1 | with_reducible assumption | (with_reducible refine Keep.below (by assumption)) | (with_reducible refine bel ?_ (by assumption)) | ((with_reducible refine below_set ?_ ?_); rotate_left; (focus (first | assumption | omega | (simp; done) | (simp; omega))))))⟩
    · have q1 := h1 (by omega)
      have q2 := h2 (by omega)
      clear h1 h2 h3 h4
      cases q : inB c 16777216 with
      | true =>
        go_wp2_with (go_at_call 39; refine (in_any _ _ _ (by omega) (by omega)).mono ?_; rintro e w1 ⟨rfl, rfl⟩)
        go_round
        case rel => exact ⟨3, by omega, rfl, (by intro _; first | trivial | assumption), (by intro _; first | trivial | assumption), (by intro _; first | trivial | assumption), by omega⟩
        case measure => simp [intOf]
      | false =>
        go_wp2_with (go_at_call 39; refine (in_any _ _ _ (by omega) (by omega)).mono ?_; rintro e w1 ⟨rfl, rfl⟩)
        go_ret
        exact ⟨ret_bool (by simp [fineB, q]), by (repeat (first | with_reducible exact Below.refl _ _ | with_reducible apply below_alloc | with_reducible apply below_drew1 | with_reducible assumption | (with_reducible refine Keep.below (by assumption)) | (with_reducible refine bel ?_ (by assumption)) | ((with_reducible refine below_set ?_ ?_); rotate_left; (focus (first | assumption | omega | (simp; done) | (simp; omega))))))⟩
    · have q1 := h1 (by omega)
      have q2 := h2 (by omega)
      have q3 := h3 (by omega)
      clear h1 h2 h3 h4
      cases q : inB d 16777216 with
      | true =>
        go_wp2_with (go_at_call 39; refine (in_any _ _ _ (by omega) (by omega)).mono ?_; rintro e w1 ⟨rfl, rfl⟩)
        go_round
        case rel => exact ⟨4, by omega, rfl, (by intro _; first | trivial | assumption), (by intro _; first | trivial | assumption), (by intro _; first | trivial | assumption), (by intro _; first | trivial | assumption)⟩
        case measure => simp [intOf]
      | false =>
        go_wp2_with (go_at_call 39; refine (in_any _ _ _ (by omega) (by omega)).mono ?_; rintro e w1 ⟨rfl, rfl⟩)
        go_ret
        exact ⟨ret_bool (by simp [fineB, q]), by (repeat (first | with_reducible exact Below.refl _ _ | with_reducible apply below_alloc | with_reducible apply below_drew1 | with_reducible assumption | (with_reducible refine Keep.below (by assumption)) | (with_reducible refine bel ?_ (by assumption)) | ((with_reducible refine below_set ?_ ?_); rotate_left; (focus (first | assumption | omega | (simp; done) | (simp; omega))))))⟩
    · have q1 := h1 (by omega)
      have q2 := h2 (by omega)
      have q3 := h3 (by omega)
      have q4 := h4 (by omega)
      clear h1 h2 h3 h4
      go_wp2_with (go_at_call 39; refine (in_any _ _ _ (by omega) (by omega)).mono ?_; rintro e w1 ⟨rfl, rfl⟩)
      all_goals (go_ret; exact ⟨ret_bool (by simp [fineB, *] <;> omega), by (repeat (first | with_reducible exact Below.refl _ _ | with_reducible apply below_alloc | with_reducible apply below_drew1 | with_reducible assumption | (with_reducible refine Keep.below (by assumption)) | (with_reducible refine bel ?_ (by assumption)) | ((with_reducible refine below_set ?_ ?_); rotate_left; (focus (first | assumption | omega | (simp; done) | (simp; omega))))))⟩)

theorem fine_bd {a b c d e f : Int} (h : fineB a b c d e f = true) : (-16777216 ≤ a ∧ a ≤ 16777216 ∧ -16777216 ≤ b ∧ b ≤ 16777216 ∧ -16777216 ≤ c ∧ c ≤ 16777216) ∧ -16777216 ≤ d ∧ d ≤ 16777216 ∧ -4294967296 ≤ e ∧ e ≤ 4294967296 ∧ -4294967296 ≤ f ∧ f ≤ 4294967296 := by
  simp [fineB, inB] at h
  omega

/-- A product's bounds. -/
theorem mul_bd {a x A X : Int} (h1 : -A ≤ a) (h2 : a ≤ A) (h3 : -X ≤ x) (h4 : x ≤ X) (hA : 0 ≤ A) (hX : 0 ≤ X) : -(A * X) ≤ a * x ∧ a * x ≤ A * X := by
  have e1 := Int.mul_le_mul_of_nonneg_left h4 hA
  rcases Int.le_total 0 a with ha | ha
  · have p1 := Int.mul_le_mul_of_nonneg_left h4 ha
    have p2 := Int.mul_le_mul_of_nonneg_right h2 hX
    have p3 := Int.mul_le_mul_of_nonneg_left h3 ha
    rw [Int.mul_neg] at p3
    omega
  · have p1 := Int.mul_le_mul_of_nonpos_left ha h4
    have p2 := Int.mul_le_mul_of_nonpos_left ha h3
    have p3 := Int.mul_le_mul_of_nonneg_right h1 hX
    rw [Int.neg_mul] at p3
    rw [Int.mul_neg] at p2
    omega

set_option maxHeartbeats 400000 in
theorem down_any (n : Int) (w : World) : Calls Try.prog 49 #[.int .i64 n] w fun e w' => e = .returned (.int .i64 (n / 65536)) ∧ w = w' := by
  go_enter Try.func49, Try.ntmps49
  go_wp2
  go_ret
  exact ⟨rfl, rfl⟩

set_option maxHeartbeats 1000000 in
theorem turn_any (a b c d e f x y : Int) (w : World) (ha1 : -16777216 ≤ a) (ha2 : a ≤ 16777216) (hb1 : -16777216 ≤ b) (hb2 : b ≤ 16777216) (hc1 : -16777216 ≤ c) (hc2 : c ≤ 16777216) (hd1 : -16777216 ≤ d) (hd2 : d ≤ 16777216)
    (hx1 : -8589934592 ≤ x) (hx2 : x ≤ 8589934592) (hy1 : -8589934592 ≤ y) (hy2 : y ≤ 8589934592) :
    Calls Try.prog 48 #[.agg #[.int .i64 a, .int .i64 b, .int .i64 c, .int .i64 d, .int .i64 e, .int .i64 f], .int .i64 x, .int .i64 y] w fun r w' => r = .returned (.tuple #[.int .i64 (a * x + b * y), .int .i64 (c * x + d * y)]) ∧ Below w.heap.size w w' := by
  obtain ⟨q1, q2⟩ := mul_bd ha1 ha2 hx1 hx2 (by omega) (by omega)
  obtain ⟨q3, q4⟩ := mul_bd hb1 hb2 hy1 hy2 (by omega) (by omega)
  obtain ⟨q5, q6⟩ := mul_bd hc1 hc2 hx1 hx2 (by omega) (by omega)
  obtain ⟨q7, q8⟩ := mul_bd hd1 hd2 hy1 hy2 (by omega) (by omega)
  simp at q1 q2 q3 q4 q5 q6 q7 q8
  have w1 : IntKind.i64.wrap (a * x) = a * x := IntWalk.i64_in _ (by omega)
  have w2 : IntKind.i64.wrap (b * y) = b * y := IntWalk.i64_in _ (by omega)
  have w3 : IntKind.i64.wrap (c * x) = c * x := IntWalk.i64_in _ (by omega)
  have w4 : IntKind.i64.wrap (d * y) = d * y := IntWalk.i64_in _ (by omega)
  have w5 : IntKind.i64.wrap (a * x + b * y) = a * x + b * y := IntWalk.i64_in _ (by omega)
  have w6 : IntKind.i64.wrap (c * x + d * y) = c * x + d * y := IntWalk.i64_in _ (by omega)
  go_enter Try.func48, Try.ntmps48
  go_wp2
  have hK : Keep w w (w.alloc (.cells #[.int .i64 a, .int .i64 b, .int .i64 c, .int .i64 d, .int .i64 e, .int .i64 f] 37)) 1 (w.alloc (.cells #[.int .i64 a, .int .i64 b, .int .i64 c, .int .i64 d, .int .i64 e, .int .i64 f] 37)) := Keep.start (by (repeat (first | with_reducible exact Below.refl _ _ | with_reducible apply below_alloc | with_reducible apply below_drew1 | with_reducible assumption | (with_reducible refine Keep.below (by assumption)) | (with_reducible refine bel ?_ (by assumption)) | ((with_reducible refine below_set ?_ ?_); rotate_left; (focus (first | assumption | omega | (simp; done) | (simp; omega))))))) (by first | assumption | omega | (simp; done) | (simp; omega))
  refine wp_region_noPanic ?_
  refine wp_region_held_drew (S := fun W_ => (∀ b_ o_, b_ < w.heap.size + 1 → W_.cell? ⟨b_, o_, none⟩ = (w.alloc (.cells #[.int .i64 a, .int .i64 b, .int .i64 c, .int .i64 d, .int .i64 e, .int .i64 f] 37)).cell? ⟨b_, o_, none⟩) ∧ w.heap.size + 1 ≤ W_.heap.size ∧ Below w.heap.size w W_) (by kernel_rfl) (show Keep w w (w.alloc (.cells #[.int .i64 a, .int .i64 b, .int .i64 c, .int .i64 d, .int .i64 e, .int .i64 f] 37)) 1 _ by (repeat (first | with_reducible assumption | with_reducible apply Keep.alloc | with_reducible apply Keep.drew | ((with_reducible refine Keep.set ?_ ?_ ?_); rotate_left; (focus (first | assumption | omega | (simp; done) | (simp; omega))); (focus (first | assumption | omega | (simp; done) | (simp; omega))))))) (fun hHeld => ?_)
  refine wpAnyH_take (i := 0) (oi := { dst := some 8, op := Go.Op.fieldAddr 37 (Go.Operand.tmp 3) 0, type := 0, pos := "rect.go:147", after := #[], guard := none }) (v := ?_) rfl (by kernel_rfl) (by kernel_rfl) (by kernel_rfl) (fun _ _ _ h => h) (Or.inl ⟨by rfl, ?_⟩) hHeld ?_
  rotate_left
  · intro W_ hSw
    obtain ⟨hS1, hS2, hS3⟩ := hSw
    go_simp
    try with_reducible rfl
  (try simp only [Act.put, List.setIfInBounds_toArray, List.set_cons_zero, List.set_cons_succ])
  refine wpAnyH_take (i := 1) (oi := { dst := some 9, op := Go.Op.load 3 (Go.Operand.tmp 8), type := 3, pos := "rect.go:147", after := #[{ on := 0, ground := Go.Ground.data }], guard := none }) (v := ?_) rfl (by kernel_rfl) (by kernel_rfl) (by kernel_rfl) (fun _ _ _ h => h) (Or.inl ⟨by rfl, ?_⟩) hHeld ?_
  rotate_left
  · intro W_ hSw
    obtain ⟨hS1, hS2, hS3⟩ := hSw
    go_simp
    try with_reducible rfl
  (try simp only [Act.put, List.setIfInBounds_toArray, List.set_cons_zero, List.set_cons_succ])
  refine wpAnyH_take (i := 2) (oi := { dst := some 10, op := Go.Op.move (Go.Operand.tmp 1), type := 3, pos := "rect.go:147", after := #[], guard := none }) (v := ?_) rfl (by kernel_rfl) (by kernel_rfl) (by kernel_rfl) (fun _ _ _ h => h) (Or.inl ⟨by rfl, ?_⟩) hHeld ?_
  rotate_left
  · intro W_ hSw
    obtain ⟨hS1, hS2, hS3⟩ := hSw
    go_simp
    try with_reducible rfl
  (try simp only [Act.put, List.setIfInBounds_toArray, List.set_cons_zero, List.set_cons_succ])
  refine wpAnyH_take (i := 3) (oi := { dst := some 11, op := Go.Op.binOp Go.BinOp.mul 3 (Go.Operand.tmp 9) (Go.Operand.tmp 10) 3, type := 3, pos := "rect.go:147", after := #[{ on := 1, ground := Go.Ground.data }, { on := 2, ground := Go.Ground.data }], guard := none }) (v := ?_) rfl (by kernel_rfl) (by kernel_rfl) (by kernel_rfl) (fun _ _ _ h => h) (Or.inl ⟨by rfl, ?_⟩) hHeld ?_
  rotate_left
  · intro W_ hSw
    obtain ⟨hS1, hS2, hS3⟩ := hSw
    go_simp
    try with_reducible rfl
  (try simp only [Act.put, List.setIfInBounds_toArray, List.set_cons_zero, List.set_cons_succ])
  refine wpAnyH_take (i := 4) (oi := { dst := some 12, op := Go.Op.fieldAddr 37 (Go.Operand.tmp 3) 1, type := 0, pos := "rect.go:147", after := #[], guard := none }) (v := ?_) rfl (by kernel_rfl) (by kernel_rfl) (by kernel_rfl) (fun _ _ _ h => h) (Or.inl ⟨by rfl, ?_⟩) hHeld ?_
  rotate_left
  · intro W_ hSw
    obtain ⟨hS1, hS2, hS3⟩ := hSw
    go_simp
    try with_reducible rfl
  (try simp only [Act.put, List.setIfInBounds_toArray, List.set_cons_zero, List.set_cons_succ])
  refine wpAnyH_take (i := 5) (oi := { dst := some 13, op := Go.Op.load 3 (Go.Operand.tmp 12), type := 3, pos := "rect.go:147", after := #[{ on := 4, ground := Go.Ground.data }], guard := none }) (v := ?_) rfl (by kernel_rfl) (by kernel_rfl) (by kernel_rfl) (fun _ _ _ h => h) (Or.inl ⟨by rfl, ?_⟩) hHeld ?_
  rotate_left
  · intro W_ hSw
    obtain ⟨hS1, hS2, hS3⟩ := hSw
    go_simp
    try with_reducible rfl
  (try simp only [Act.put, List.setIfInBounds_toArray, List.set_cons_zero, List.set_cons_succ])
  refine wpAnyH_take (i := 6) (oi := { dst := some 14, op := Go.Op.move (Go.Operand.tmp 2), type := 3, pos := "rect.go:147", after := #[], guard := none }) (v := ?_) rfl (by kernel_rfl) (by kernel_rfl) (by kernel_rfl) (fun _ _ _ h => h) (Or.inl ⟨by rfl, ?_⟩) hHeld ?_
  rotate_left
  · intro W_ hSw
    obtain ⟨hS1, hS2, hS3⟩ := hSw
    go_simp
    try with_reducible rfl
  (try simp only [Act.put, List.setIfInBounds_toArray, List.set_cons_zero, List.set_cons_succ])
  refine wpAnyH_take (i := 7) (oi := { dst := some 15, op := Go.Op.binOp Go.BinOp.mul 3 (Go.Operand.tmp 13) (Go.Operand.tmp 14) 3, type := 3, pos := "rect.go:147", after := #[{ on := 5, ground := Go.Ground.data }, { on := 6, ground := Go.Ground.data }], guard := none }) (v := ?_) rfl (by kernel_rfl) (by kernel_rfl) (by kernel_rfl) (fun _ _ _ h => h) (Or.inl ⟨by rfl, ?_⟩) hHeld ?_
  rotate_left
  · intro W_ hSw
    obtain ⟨hS1, hS2, hS3⟩ := hSw
    go_simp
    try with_reducible rfl
  (try simp only [Act.put, List.setIfInBounds_toArray, List.set_cons_zero, List.set_cons_succ])
  refine wpAnyH_take (i := 8) (oi := { dst := some 16, op := Go.Op.binOp Go.BinOp.add 3 (Go.Operand.tmp 11) (Go.Operand.tmp 15) 3, type := 3, pos := "rect.go:147", after := #[{ on := 3, ground := Go.Ground.data }, { on := 7, ground := Go.Ground.data }], guard := none }) (v := ?_) rfl (by kernel_rfl) (by kernel_rfl) (by kernel_rfl) (fun _ _ _ h => h) (Or.inl ⟨by rfl, ?_⟩) hHeld ?_
  rotate_left
  · intro W_ hSw
    obtain ⟨hS1, hS2, hS3⟩ := hSw
    go_simp
    try with_reducible rfl
  (try simp only [Act.put, List.setIfInBounds_toArray, List.set_cons_zero, List.set_cons_succ])
  refine wpAnyH_take (i := 9) (oi := { dst := some 17, op := Go.Op.fieldAddr 37 (Go.Operand.tmp 3) 2, type := 0, pos := "rect.go:147", after := #[{ on := 18, ground := Go.Ground.gcOnly Go.Departure.lateStores }], guard := none }) (v := ?_) rfl (by kernel_rfl) (by kernel_rfl) (by kernel_rfl) (fun _ _ _ h => h) (Or.inl ⟨by rfl, ?_⟩) hHeld ?_
  rotate_left
  · intro W_ hSw
    obtain ⟨hS1, hS2, hS3⟩ := hSw
    go_simp
    try with_reducible rfl
  (try simp only [Act.put, List.setIfInBounds_toArray, List.set_cons_zero, List.set_cons_succ])
  refine wpAnyH_take (i := 10) (oi := { dst := some 18, op := Go.Op.load 3 (Go.Operand.tmp 17), type := 3, pos := "rect.go:147", after := #[{ on := 9, ground := Go.Ground.data }, { on := 18, ground := Go.Ground.gcOnly Go.Departure.lateStores }], guard := none }) (v := ?_) rfl (by kernel_rfl) (by kernel_rfl) (by kernel_rfl) (fun _ _ _ h => h) (Or.inl ⟨by rfl, ?_⟩) hHeld ?_
  rotate_left
  · intro W_ hSw
    obtain ⟨hS1, hS2, hS3⟩ := hSw
    go_simp
    try with_reducible rfl
  (try simp only [Act.put, List.setIfInBounds_toArray, List.set_cons_zero, List.set_cons_succ])
  refine wpAnyH_take (i := 11) (oi := { dst := some 19, op := Go.Op.move (Go.Operand.tmp 1), type := 3, pos := "rect.go:147", after := #[{ on := 18, ground := Go.Ground.gcOnly Go.Departure.lateStores }], guard := none }) (v := ?_) rfl (by kernel_rfl) (by kernel_rfl) (by kernel_rfl) (fun _ _ _ h => h) (Or.inl ⟨by rfl, ?_⟩) hHeld ?_
  rotate_left
  · intro W_ hSw
    obtain ⟨hS1, hS2, hS3⟩ := hSw
    go_simp
    try with_reducible rfl
  (try simp only [Act.put, List.setIfInBounds_toArray, List.set_cons_zero, List.set_cons_succ])
  refine wpAnyH_take (i := 12) (oi := { dst := some 20, op := Go.Op.binOp Go.BinOp.mul 3 (Go.Operand.tmp 18) (Go.Operand.tmp 19) 3, type := 3, pos := "rect.go:147", after := #[{ on := 10, ground := Go.Ground.data }, { on := 11, ground := Go.Ground.data }, { on := 18, ground := Go.Ground.gcOnly Go.Departure.lateStores }], guard := none }) (v := ?_) rfl (by kernel_rfl) (by kernel_rfl) (by kernel_rfl) (fun _ _ _ h => h) (Or.inl ⟨by rfl, ?_⟩) hHeld ?_
  rotate_left
  · intro W_ hSw
    obtain ⟨hS1, hS2, hS3⟩ := hSw
    go_simp
    try with_reducible rfl
  (try simp only [Act.put, List.setIfInBounds_toArray, List.set_cons_zero, List.set_cons_succ])
  refine wpAnyH_take (i := 13) (oi := { dst := some 21, op := Go.Op.fieldAddr 37 (Go.Operand.tmp 3) 3, type := 0, pos := "rect.go:147", after := #[{ on := 18, ground := Go.Ground.gcOnly Go.Departure.lateStores }], guard := none }) (v := ?_) rfl (by kernel_rfl) (by kernel_rfl) (by kernel_rfl) (fun _ _ _ h => h) (Or.inl ⟨by rfl, ?_⟩) hHeld ?_
  rotate_left
  · intro W_ hSw
    obtain ⟨hS1, hS2, hS3⟩ := hSw
    go_simp
    try with_reducible rfl
  (try simp only [Act.put, List.setIfInBounds_toArray, List.set_cons_zero, List.set_cons_succ])
  refine wpAnyH_take (i := 14) (oi := { dst := some 22, op := Go.Op.load 3 (Go.Operand.tmp 21), type := 3, pos := "rect.go:147", after := #[{ on := 13, ground := Go.Ground.data }, { on := 18, ground := Go.Ground.gcOnly Go.Departure.lateStores }], guard := none }) (v := ?_) rfl (by kernel_rfl) (by kernel_rfl) (by kernel_rfl) (fun _ _ _ h => h) (Or.inl ⟨by rfl, ?_⟩) hHeld ?_
  rotate_left
  · intro W_ hSw
    obtain ⟨hS1, hS2, hS3⟩ := hSw
    go_simp
    try with_reducible rfl
  (try simp only [Act.put, List.setIfInBounds_toArray, List.set_cons_zero, List.set_cons_succ])
  refine wpAnyH_take (i := 15) (oi := { dst := some 23, op := Go.Op.move (Go.Operand.tmp 2), type := 3, pos := "rect.go:147", after := #[{ on := 18, ground := Go.Ground.gcOnly Go.Departure.lateStores }], guard := none }) (v := ?_) rfl (by kernel_rfl) (by kernel_rfl) (by kernel_rfl) (fun _ _ _ h => h) (Or.inl ⟨by rfl, ?_⟩) hHeld ?_
  rotate_left
  · intro W_ hSw
    obtain ⟨hS1, hS2, hS3⟩ := hSw
    go_simp
    try with_reducible rfl
  (try simp only [Act.put, List.setIfInBounds_toArray, List.set_cons_zero, List.set_cons_succ])
  refine wpAnyH_take (i := 16) (oi := { dst := some 24, op := Go.Op.binOp Go.BinOp.mul 3 (Go.Operand.tmp 22) (Go.Operand.tmp 23) 3, type := 3, pos := "rect.go:147", after := #[{ on := 14, ground := Go.Ground.data }, { on := 15, ground := Go.Ground.data }, { on := 18, ground := Go.Ground.gcOnly Go.Departure.lateStores }], guard := none }) (v := ?_) rfl (by kernel_rfl) (by kernel_rfl) (by kernel_rfl) (fun _ _ _ h => h) (Or.inl ⟨by rfl, ?_⟩) hHeld ?_
  rotate_left
  · intro W_ hSw
    obtain ⟨hS1, hS2, hS3⟩ := hSw
    go_simp
    try with_reducible rfl
  (try simp only [Act.put, List.setIfInBounds_toArray, List.set_cons_zero, List.set_cons_succ])
  refine wpAnyH_take (i := 17) (oi := { dst := some 25, op := Go.Op.binOp Go.BinOp.add 3 (Go.Operand.tmp 20) (Go.Operand.tmp 24) 3, type := 3, pos := "rect.go:147", after := #[{ on := 12, ground := Go.Ground.data }, { on := 16, ground := Go.Ground.data }, { on := 18, ground := Go.Ground.gcOnly Go.Departure.lateStores }], guard := none }) (v := ?_) rfl (by kernel_rfl) (by kernel_rfl) (by kernel_rfl) (fun _ _ _ h => h) (Or.inl ⟨by rfl, ?_⟩) hHeld ?_
  rotate_left
  · intro W_ hSw
    obtain ⟨hS1, hS2, hS3⟩ := hSw
    go_simp
    try with_reducible rfl
  (try simp only [Act.put, List.setIfInBounds_toArray, List.set_cons_zero, List.set_cons_succ])
  refine wpAnyH_take (i := 18) (oi := { dst := some 6, op := Go.Op.assign (Go.Operand.tmp 16), type := 3, pos := "rect.go:147", after := #[{ on := 8, ground := Go.Ground.data }, { on := 0, ground := Go.Ground.phase }, { on := 1, ground := Go.Ground.phase }, { on := 2, ground := Go.Ground.phase }, { on := 3, ground := Go.Ground.phase }, { on := 4, ground := Go.Ground.phase }, { on := 5, ground := Go.Ground.phase }, { on := 6, ground := Go.Ground.phase }, { on := 7, ground := Go.Ground.phase }, { on := 8, ground := Go.Ground.phase }, { on := 9, ground := Go.Ground.textOnly Go.Departure.lateStores }, { on := 10, ground := Go.Ground.textOnly Go.Departure.lateStores }, { on := 11, ground := Go.Ground.textOnly Go.Departure.lateStores }, { on := 12, ground := Go.Ground.textOnly Go.Departure.lateStores }, { on := 13, ground := Go.Ground.textOnly Go.Departure.lateStores }, { on := 14, ground := Go.Ground.textOnly Go.Departure.lateStores }, { on := 15, ground := Go.Ground.textOnly Go.Departure.lateStores }, { on := 16, ground := Go.Ground.textOnly Go.Departure.lateStores }, { on := 17, ground := Go.Ground.textOnly Go.Departure.lateStores }], guard := none }) (v := ?_) rfl (by kernel_rfl) (by kernel_rfl) (by kernel_rfl) (fun _ _ _ h => h) (Or.inl ⟨by rfl, ?_⟩) hHeld ?_
  rotate_left
  · intro W_ hSw
    obtain ⟨hS1, hS2, hS3⟩ := hSw
    go_simp
    try with_reducible rfl
  (try simp only [Act.put, List.setIfInBounds_toArray, List.set_cons_zero, List.set_cons_succ])
  refine wpAnyH_take (i := 19) (oi := { dst := some 7, op := Go.Op.assign (Go.Operand.tmp 25), type := 3, pos := "rect.go:147", after := #[{ on := 17, ground := Go.Ground.data }, { on := 18, ground := Go.Ground.chain }, { on := 0, ground := Go.Ground.phase }, { on := 1, ground := Go.Ground.phase }, { on := 2, ground := Go.Ground.phase }, { on := 3, ground := Go.Ground.phase }, { on := 4, ground := Go.Ground.phase }, { on := 5, ground := Go.Ground.phase }, { on := 6, ground := Go.Ground.phase }, { on := 7, ground := Go.Ground.phase }, { on := 8, ground := Go.Ground.phase }, { on := 9, ground := Go.Ground.phase }, { on := 10, ground := Go.Ground.phase }, { on := 11, ground := Go.Ground.phase }, { on := 12, ground := Go.Ground.phase }, { on := 13, ground := Go.Ground.phase }, { on := 14, ground := Go.Ground.phase }, { on := 15, ground := Go.Ground.phase }, { on := 16, ground := Go.Ground.phase }, { on := 17, ground := Go.Ground.phase }, { on := 18, ground := Go.Ground.phase }], guard := none }) (v := ?_) rfl (by kernel_rfl) (by kernel_rfl) (by kernel_rfl) (fun _ _ _ h => h) (Or.inl ⟨by rfl, ?_⟩) hHeld ?_
  rotate_left
  · intro W_ hSw
    obtain ⟨hS1, hS2, hS3⟩ := hSw
    go_simp
    try with_reducible rfl
  (try simp only [Act.put, List.setIfInBounds_toArray, List.set_cons_zero, List.set_cons_succ])
  refine wpAnyH_done (by kernel_rfl) ?_ _
  refine NoPanic.normal ?_
  go_wp2
  go_ret2
  exact ⟨rfl, by (repeat (first | with_reducible exact Below.refl _ _ | with_reducible apply below_alloc | with_reducible apply below_drew1 | with_reducible assumption | (with_reducible refine Keep.below (by assumption)) | (with_reducible refine bel ?_ (by assumption)) | ((with_reducible refine below_set ?_ ?_); rotate_left; (focus (first | assumption | omega | (simp; done) | (simp; omega))))))⟩

structure M6 where
  a : Int
  b : Int
  c : Int
  d : Int
  e : Int
  f : Int
  deriving DecidableEq
def M6.fine (m : M6) : Bool := fineB m.a m.b m.c m.d m.e m.f
def pointF (m : M6) (x y : Int) : Int × Int × Int :=
  if m.fine = true ∧ inB x 8589934592 = true ∧ inB y 8589934592 = true then
    (if inB ((m.a * x + m.b * y) / 65536 + m.e) 4294967296 = true ∧ inB ((m.c * x + m.d * y) / 65536 + m.f) 4294967296 = true then ((m.a * x + m.b * y) / 65536 + m.e, (m.c * x + m.d * y) / 65536 + m.f, 0) else (0, 0, 30))
  else (0, 0, 1)
theorem in_bd {n m : Int} (h : inB n m = true) : -m ≤ n ∧ n ≤ m := by
  simp [inB] at h
  exact h

set_option maxHeartbeats 1000000 in
theorem point_any (a b c d e f x y : Int) (w : World) :
    Calls Try.prog 20 #[.agg #[.int .i64 a, .int .i64 b, .int .i64 c, .int .i64 d, .int .i64 e, .int .i64 f], .int .i64 x, .int .i64 y] w fun r w' =>
      r = .returned (.tuple #[.int .i64 (pointF ⟨a, b, c, d, e, f⟩ x y).1, .int .i64 (pointF ⟨a, b, c, d, e, f⟩ x y).2.1, .int .i64 (pointF ⟨a, b, c, d, e, f⟩ x y).2.2]) ∧ Below w.heap.size w w' := by
  by_cases hm : fineB a b c d e f = true ∧ inB x 8589934592 = true ∧ inB y 8589934592 = true
  · obtain ⟨m1, m2, m3⟩ := hm
    obtain ⟨⟨p1, p2, p3, p4, p5, p6⟩, p7, p8, p9, p10, p11, p12⟩ := fine_bd m1
    obtain ⟨p13, p14⟩ := in_bd m2
    obtain ⟨p15, p16⟩ := in_bd m3
    obtain ⟨q1, q2⟩ := mul_bd p1 p2 p13 p14 (by omega) (by omega)
    obtain ⟨q3, q4⟩ := mul_bd p3 p4 p15 p16 (by omega) (by omega)
    obtain ⟨q5, q6⟩ := mul_bd p5 p6 p13 p14 (by omega) (by omega)
    obtain ⟨q7, q8⟩ := mul_bd p7 p8 p15 p16 (by omega) (by omega)
    simp at q1 q2 q3 q4 q5 q6 q7 q8
    have w1' : IntKind.i64.wrap ((a * x + b * y) / 65536 + e) = (a * x + b * y) / 65536 + e := IntWalk.i64_in _ (by omega)
    have w2' : IntKind.i64.wrap ((c * x + d * y) / 65536 + f) = (c * x + d * y) / 65536 + f := IntWalk.i64_in _ (by omega)
    clear q1 q2 q3 q4 q5 q6 q7 q8
    go_enter Try.func20, Try.ntmps20
    go_wp2_with (first | (go_at_call 18; refine (fine_any _ _ _ _ _ _ _).mono ?_; rintro e w1 ⟨rfl, hb⟩; (try replace hb := undrew hb); obtain ⟨hc, hf⟩ := ch hb; have hz := hb.size; (try simp only [World.size_alloc, World.size_setCell, World.size_drew] at hz); have zw0 : w.heap.size < w1.heap.size := (by omega)) | (go_at_call 39; refine (in_any _ _ _ (by omega) (by omega)).mono ?_; rintro e w1 ⟨rfl, rfl⟩) | (go_at_call 48; refine (turn_any _ _ _ _ _ _ _ _ _ (by omega) (by omega) (by omega) (by omega) (by omega) (by omega) (by omega) (by omega) (by omega) (by omega) (by omega) (by omega)).mono ?_; rintro e w1 ⟨rfl, hb⟩; (try replace hb := undrew hb); obtain ⟨hc, hf⟩ := ch hb; have hz := hb.size; (try simp only [World.size_alloc, World.size_setCell, World.size_drew] at hz); have zw0 : w.heap.size < w1.heap.size := (by omega)))
    obtain ⟨ws, rfl⟩ : ∃ ws, ws = w1 := ⟨_, rfl⟩
    have hK : Keep w w ws 1 ws := Keep.start (by (repeat (first | with_reducible exact Below.refl _ _ | with_reducible apply below_alloc | with_reducible apply below_drew1 | with_reducible assumption | (with_reducible refine Keep.below (by assumption)) | (with_reducible refine bel ?_ (by assumption)) | ((with_reducible refine below_set ?_ ?_); rotate_left; (focus (first | assumption | omega | (simp; done) | (simp; omega))))))) (by first | assumption | omega | (simp; done) | (simp; omega))
    refine wp_region_noPanic ?_
    refine wp_region_held_drew (S := fun W_ => (∀ b_ o_, b_ < w.heap.size + 1 → W_.cell? ⟨b_, o_, none⟩ = ws.cell? ⟨b_, o_, none⟩) ∧ w.heap.size + 1 ≤ W_.heap.size ∧ Below w.heap.size w W_) (by kernel_rfl) (show Keep w w ws 1 _ by (repeat (first | with_reducible assumption | with_reducible apply Keep.alloc | with_reducible apply Keep.drew | ((with_reducible refine Keep.set ?_ ?_ ?_); rotate_left; (focus (first | assumption | omega | (simp; done) | (simp; omega))); (focus (first | assumption | omega | (simp; done) | (simp; omega))))))) (fun hHeld => ?_)
    refine wpAnyH_take (i := 0) (oi := { dst := some 31, op := Go.Op.move (Go.Operand.tmp 9), type := 3, pos := "rect.go:175", after := #[], guard := none }) (v := ?_) rfl (by kernel_rfl) (by kernel_rfl) (by kernel_rfl) (fun _ _ _ h => h) (Or.inl ⟨by rfl, ?_⟩) hHeld ?_
    rotate_left
    · intro W_ hSw
      obtain ⟨hS1, hS2, hS3⟩ := hSw
      go_simp
      try with_reducible rfl
    (try simp only [Act.put, List.setIfInBounds_toArray, List.set_cons_zero, List.set_cons_succ])
    refine wpAnyH_take (i := 2) (oi := { dst := some 33, op := Go.Op.fieldAddr 37 (Go.Operand.tmp 3) 4, type := 0, pos := "rect.go:175", after := #[], guard := none }) (v := ?_) rfl (by kernel_rfl) (by kernel_rfl) (by kernel_rfl) (fun _ _ _ h => h) (Or.inl ⟨by rfl, ?_⟩) hHeld ?_
    rotate_left
    · intro W_ hSw
      obtain ⟨hS1, hS2, hS3⟩ := hSw
      go_simp
      try with_reducible rfl
    (try simp only [Act.put, List.setIfInBounds_toArray, List.set_cons_zero, List.set_cons_succ])
    refine wpAnyH_take (i := 3) (oi := { dst := some 34, op := Go.Op.load 3 (Go.Operand.tmp 33), type := 3, pos := "rect.go:175", after := #[{ on := 2, ground := Go.Ground.data }], guard := none }) (v := ?_) rfl (by kernel_rfl) (by kernel_rfl) (by kernel_rfl) (fun _ _ _ h => h) (Or.inl ⟨by rfl, ?_⟩) hHeld ?_
    rotate_left
    · intro W_ hSw
      obtain ⟨hS1, hS2, hS3⟩ := hSw
      go_simp
      try with_reducible rfl
    (try simp only [Act.put, List.setIfInBounds_toArray, List.set_cons_zero, List.set_cons_succ])
    refine wpAnyH_take (i := 5) (oi := { dst := some 36, op := Go.Op.move (Go.Operand.tmp 10), type := 3, pos := "rect.go:175", after := #[], guard := none }) (v := ?_) rfl (by kernel_rfl) (by kernel_rfl) (by kernel_rfl) (fun _ _ _ h => h) (Or.inl ⟨by rfl, ?_⟩) hHeld ?_
    rotate_left
    · intro W_ hSw
      obtain ⟨hS1, hS2, hS3⟩ := hSw
      go_simp
      try with_reducible rfl
    (try simp only [Act.put, List.setIfInBounds_toArray, List.set_cons_zero, List.set_cons_succ])
    refine wpAnyH_take (i := 7) (oi := { dst := some 38, op := Go.Op.fieldAddr 37 (Go.Operand.tmp 3) 5, type := 0, pos := "rect.go:175", after := #[{ on := 10, ground := Go.Ground.gcOnly Go.Departure.lateStores }], guard := none }) (v := ?_) rfl (by kernel_rfl) (by kernel_rfl) (by kernel_rfl) (fun _ _ _ h => h) (Or.inl ⟨by rfl, ?_⟩) hHeld ?_
    rotate_left
    · intro W_ hSw
      obtain ⟨hS1, hS2, hS3⟩ := hSw
      go_simp
      try with_reducible rfl
    (try simp only [Act.put, List.setIfInBounds_toArray, List.set_cons_zero, List.set_cons_succ])
    refine wpAnyH_take (i := 8) (oi := { dst := some 39, op := Go.Op.load 3 (Go.Operand.tmp 38), type := 3, pos := "rect.go:175", after := #[{ on := 7, ground := Go.Ground.data }, { on := 10, ground := Go.Ground.gcOnly Go.Departure.lateStores }], guard := none }) (v := ?_) rfl (by kernel_rfl) (by kernel_rfl) (by kernel_rfl) (fun _ _ _ h => h) (Or.inl ⟨by rfl, ?_⟩) hHeld ?_
    rotate_left
    · intro W_ hSw
      obtain ⟨hS1, hS2, hS3⟩ := hSw
      go_simp
      try with_reducible rfl
    (try simp only [Act.put, List.setIfInBounds_toArray, List.set_cons_zero, List.set_cons_succ])
    refine wpAnyH_ready (rs := [1]) (by kernel_rfl) (by simp) ?_
    refine AllReadyH.cons (o := { dst := some 32, op := Go.Op.call { callee := Go.Callee.value (Go.Operand.func 49), args := #[Go.Operand.tmp 31], argTypes := #[3] }, type := 3, pos := "rect.go:175", after := #[{ on := 0, ground := Go.Ground.data }], guard := none }) rfl (fun KR hKR => ?_) ?_
    have hS := hHeld
    clear hHeld
    obtain ⟨hS1, hS2, hS3⟩ := hS
    go_simp
    (go_at_call 49; refine (down_any _ _).mono ?_; rintro e w1 ⟨rfl, rfl⟩)
    refine hKR.out _ _ (by exact (show Keep w w ws 1 _ by (repeat (first | with_reducible assumption | with_reducible apply Keep.alloc | with_reducible apply Keep.drew | ((with_reducible refine Keep.set ?_ ?_ ?_); rotate_left; (focus (first | assumption | omega | (simp; done) | (simp; omega))); (focus (first | assumption | omega | (simp; done) | (simp; omega)))))))) (fun hHeld => ?_)
    clear hKR KR
    (try simp only [Act.put, List.setIfInBounds_toArray, List.set_cons_zero, List.set_cons_succ])
    rotate_left
    · exact AllReadyH.nil
    refine wpAnyH_take (i := 4) (oi := { dst := some 35, op := Go.Op.binOp Go.BinOp.add 3 (Go.Operand.tmp 32) (Go.Operand.tmp 34) 3, type := 3, pos := "rect.go:175", after := #[{ on := 1, ground := Go.Ground.data }, { on := 3, ground := Go.Ground.data }], guard := none }) (v := ?_) rfl (by kernel_rfl) (by kernel_rfl) (by kernel_rfl) (fun _ _ _ h => h) (Or.inl ⟨by rfl, ?_⟩) hHeld ?_
    rotate_left
    · intro W_ hSw
      obtain ⟨hS1, hS2, hS3⟩ := hSw
      go_simp
      try with_reducible rfl
    (try simp only [Act.put, List.setIfInBounds_toArray, List.set_cons_zero, List.set_cons_succ])
    refine wpAnyH_ready (rs := [6]) (by kernel_rfl) (by simp) ?_
    refine AllReadyH.cons (o := { dst := some 37, op := Go.Op.call { callee := Go.Callee.value (Go.Operand.func 49), args := #[Go.Operand.tmp 36], argTypes := #[3] }, type := 3, pos := "rect.go:175", after := #[{ on := 5, ground := Go.Ground.data }, { on := 1, ground := Go.Ground.chain }], guard := none }) rfl (fun KR hKR => ?_) ?_
    have hS := hHeld
    clear hHeld
    obtain ⟨hS1, hS2, hS3⟩ := hS
    go_simp
    (go_at_call 49; refine (down_any _ _).mono ?_; rintro e w1 ⟨rfl, rfl⟩)
    refine hKR.out _ _ (by exact (show Keep w w ws 1 _ by (repeat (first | with_reducible assumption | with_reducible apply Keep.alloc | with_reducible apply Keep.drew | ((with_reducible refine Keep.set ?_ ?_ ?_); rotate_left; (focus (first | assumption | omega | (simp; done) | (simp; omega))); (focus (first | assumption | omega | (simp; done) | (simp; omega)))))))) (fun hHeld => ?_)
    clear hKR KR
    (try simp only [Act.put, List.setIfInBounds_toArray, List.set_cons_zero, List.set_cons_succ])
    rotate_left
    · exact AllReadyH.nil
    refine wpAnyH_take (i := 9) (oi := { dst := some 40, op := Go.Op.binOp Go.BinOp.add 3 (Go.Operand.tmp 37) (Go.Operand.tmp 39) 3, type := 3, pos := "rect.go:175", after := #[{ on := 6, ground := Go.Ground.data }, { on := 8, ground := Go.Ground.data }, { on := 10, ground := Go.Ground.gcOnly Go.Departure.lateStores }], guard := none }) (v := ?_) rfl (by kernel_rfl) (by kernel_rfl) (by kernel_rfl) (fun _ _ _ h => h) (Or.inl ⟨by rfl, ?_⟩) hHeld ?_
    rotate_left
    · intro W_ hSw
      obtain ⟨hS1, hS2, hS3⟩ := hSw
      go_simp
      try with_reducible rfl
    (try simp only [Act.put, List.setIfInBounds_toArray, List.set_cons_zero, List.set_cons_succ])
    refine wpAnyH_take (i := 10) (oi := { dst := some 9, op := Go.Op.assign (Go.Operand.tmp 35), type := 3, pos := "rect.go:175", after := #[{ on := 4, ground := Go.Ground.data }, { on := 6, ground := Go.Ground.chain }, { on := 0, ground := Go.Ground.phase }, { on := 1, ground := Go.Ground.phase }, { on := 2, ground := Go.Ground.phase }, { on := 3, ground := Go.Ground.phase }, { on := 4, ground := Go.Ground.phase }, { on := 5, ground := Go.Ground.textOnly Go.Departure.lateStores }, { on := 6, ground := Go.Ground.textOnly Go.Departure.lateStoresUnsure }, { on := 7, ground := Go.Ground.textOnly Go.Departure.lateStores }, { on := 8, ground := Go.Ground.textOnly Go.Departure.lateStores }, { on := 9, ground := Go.Ground.textOnly Go.Departure.lateStores }], guard := none }) (v := ?_) rfl (by kernel_rfl) (by kernel_rfl) (by kernel_rfl) (fun _ _ _ h => h) (Or.inl ⟨by rfl, ?_⟩) hHeld ?_
    rotate_left
    · intro W_ hSw
      obtain ⟨hS1, hS2, hS3⟩ := hSw
      go_simp
      try with_reducible rfl
    (try simp only [Act.put, List.setIfInBounds_toArray, List.set_cons_zero, List.set_cons_succ])
    refine wpAnyH_take (i := 11) (oi := { dst := some 10, op := Go.Op.assign (Go.Operand.tmp 40), type := 3, pos := "rect.go:175", after := #[{ on := 9, ground := Go.Ground.data }, { on := 10, ground := Go.Ground.chain }, { on := 0, ground := Go.Ground.phase }, { on := 1, ground := Go.Ground.phase }, { on := 2, ground := Go.Ground.phase }, { on := 3, ground := Go.Ground.phase }, { on := 4, ground := Go.Ground.phase }, { on := 5, ground := Go.Ground.phase }, { on := 6, ground := Go.Ground.phase }, { on := 7, ground := Go.Ground.phase }, { on := 8, ground := Go.Ground.phase }, { on := 9, ground := Go.Ground.phase }, { on := 10, ground := Go.Ground.phase }], guard := none }) (v := ?_) rfl (by kernel_rfl) (by kernel_rfl) (by kernel_rfl) (fun _ _ _ h => h) (Or.inl ⟨by rfl, ?_⟩) hHeld ?_
    rotate_left
    · intro W_ hSw
      obtain ⟨hS1, hS2, hS3⟩ := hSw
      go_simp
      try with_reducible rfl
    (try simp only [Act.put, List.setIfInBounds_toArray, List.set_cons_zero, List.set_cons_succ])
    refine wpAnyH_done (by kernel_rfl) ?_ _
    refine NoPanic.normal ?_
    cases r1 : inB ((a * x + b * y) / 65536 + e) 4294967296 with
    | false =>
      go_wp2_with (go_at_call 39; refine (in_any _ _ _ (by omega) (by omega)).mono ?_; rintro e w1 ⟨rfl, rfl⟩)
      go_ret3
      exact ⟨by simp [pointF, M6.fine, *], by (repeat (first | with_reducible exact Below.refl _ _ | with_reducible apply below_alloc | with_reducible apply below_drew1 | with_reducible assumption | (with_reducible refine Keep.below (by assumption)) | (with_reducible refine bel ?_ (by assumption)) | ((with_reducible refine below_set ?_ ?_); rotate_left; (focus (first | assumption | omega | (simp; done) | (simp; omega))))))⟩
    | true =>
      cases r2 : inB ((c * x + d * y) / 65536 + f) 4294967296 with
      | false =>
        go_wp2_with (go_at_call 39; refine (in_any _ _ _ (by omega) (by omega)).mono ?_; rintro e w1 ⟨rfl, rfl⟩)
        go_ret3
        exact ⟨by simp [pointF, M6.fine, *], by (repeat (first | with_reducible exact Below.refl _ _ | with_reducible apply below_alloc | with_reducible apply below_drew1 | with_reducible assumption | (with_reducible refine Keep.below (by assumption)) | (with_reducible refine bel ?_ (by assumption)) | ((with_reducible refine below_set ?_ ?_); rotate_left; (focus (first | assumption | omega | (simp; done) | (simp; omega))))))⟩
      | true =>
        go_wp2_with (go_at_call 39; refine (in_any _ _ _ (by omega) (by omega)).mono ?_; rintro e w1 ⟨rfl, rfl⟩)
        go_ret3
        exact ⟨by simp [pointF, M6.fine, *], by (repeat (first | with_reducible exact Below.refl _ _ | with_reducible apply below_alloc | with_reducible apply below_drew1 | with_reducible assumption | (with_reducible refine Keep.below (by assumption)) | (with_reducible refine bel ?_ (by assumption)) | ((with_reducible refine below_set ?_ ?_); rotate_left; (focus (first | assumption | omega | (simp; done) | (simp; omega))))))⟩
  · cases m1 : fineB a b c d e f with
    | false =>
      clear hm
      go_enter Try.func20, Try.ntmps20
      go_wp2_with (first | (go_at_call 18; refine (fine_any _ _ _ _ _ _ _).mono ?_; rintro e w1 ⟨rfl, hb⟩; (try replace hb := undrew hb); obtain ⟨hc, hf⟩ := ch hb; have hz := hb.size; (try simp only [World.size_alloc, World.size_setCell, World.size_drew] at hz); have zw0 : w.heap.size < w1.heap.size := (by omega)) | (go_at_call 39; refine (in_any _ _ _ (by omega) (by omega)).mono ?_; rintro e w1 ⟨rfl, rfl⟩))
      go_ret3
      exact ⟨by simp [pointF, M6.fine, m1], by (repeat (first | with_reducible exact Below.refl _ _ | with_reducible apply below_alloc | with_reducible apply below_drew1 | with_reducible assumption | (with_reducible refine Keep.below (by assumption)) | (with_reducible refine bel ?_ (by assumption)) | ((with_reducible refine below_set ?_ ?_); rotate_left; (focus (first | assumption | omega | (simp; done) | (simp; omega))))))⟩
    | true =>
      cases m2 : inB x 8589934592 with
      | false =>
        clear hm
        go_enter Try.func20, Try.ntmps20
        go_wp2_with (first | (go_at_call 18; refine (fine_any _ _ _ _ _ _ _).mono ?_; rintro e w1 ⟨rfl, hb⟩; (try replace hb := undrew hb); obtain ⟨hc, hf⟩ := ch hb; have hz := hb.size; (try simp only [World.size_alloc, World.size_setCell, World.size_drew] at hz); have zw0 : w.heap.size < w1.heap.size := (by omega)) | (go_at_call 39; refine (in_any _ _ _ (by omega) (by omega)).mono ?_; rintro e w1 ⟨rfl, rfl⟩))
        go_ret3
        exact ⟨by simp [pointF, M6.fine, m1, m2], by (repeat (first | with_reducible exact Below.refl _ _ | with_reducible apply below_alloc | with_reducible apply below_drew1 | with_reducible assumption | (with_reducible refine Keep.below (by assumption)) | (with_reducible refine bel ?_ (by assumption)) | ((with_reducible refine below_set ?_ ?_); rotate_left; (focus (first | assumption | omega | (simp; done) | (simp; omega))))))⟩
      | true =>
        cases m3 : inB y 8589934592 with
        | false =>
          clear hm
          go_enter Try.func20, Try.ntmps20
          go_wp2_with (first | (go_at_call 18; refine (fine_any _ _ _ _ _ _ _).mono ?_; rintro e w1 ⟨rfl, hb⟩; (try replace hb := undrew hb); obtain ⟨hc, hf⟩ := ch hb; have hz := hb.size; (try simp only [World.size_alloc, World.size_setCell, World.size_drew] at hz); have zw0 : w.heap.size < w1.heap.size := (by omega)) | (go_at_call 39; refine (in_any _ _ _ (by omega) (by omega)).mono ?_; rintro e w1 ⟨rfl, rfl⟩))
          go_ret3
          exact ⟨by simp [pointF, M6.fine, m1, m2, m3], by (repeat (first | with_reducible exact Below.refl _ _ | with_reducible apply below_alloc | with_reducible apply below_drew1 | with_reducible assumption | (with_reducible refine Keep.below (by assumption)) | (with_reducible refine bel ?_ (by assumption)) | ((with_reducible refine below_set ?_ ?_); rotate_left; (focus (first | assumption | omega | (simp; done) | (simp; omega))))))⟩
        | true => exact absurd ⟨m1, m2, m3⟩ hm
end Go.Proofs.Ytjekoaodgdodjaa
