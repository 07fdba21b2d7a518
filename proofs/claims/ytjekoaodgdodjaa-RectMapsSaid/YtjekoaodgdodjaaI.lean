/- Walks of rect's up, near, fine. -/
import Derived.Test.YtjekoaodgdodjaaIH
set_option linter.unusedVariables false
set_option linter.unusedSimpArgs false
namespace Go.Proofs.Ytjekoaodgdodjaa
open Go.RowKit

def upF (n : Int) : Int := -(-n / 65536)
set_option maxHeartbeats 400000 in
theorem up_any (n : Int) (w : World) (h1 : -4611686018427387904 ≤ n) (h2 : n ≤ 4611686018427387904) : Calls Try.prog 50 #[.int .i64 n] w fun e w' => e = .returned (.int .i64 (upF n)) ∧ w = w' := by
  go_enter Try.func50, Try.ntmps50
  go_wp2
  go_ret
  exact ⟨rfl, rfl⟩

/-- A quotient, to the nearest, half ways up: by a number above 0. -/
def nearP (n b : Int) : Int := n / b + if b - n % b ≤ n % b then 1 else 0
def nearF (n b : Int) : Int := if b < 0 then nearP (-n) (-b) else nearP n b
theorem floor_neg {n b : Int} (hb : 0 < b) (h : n.tmod b < 0) : n / b = n.tdiv b - 1 ∧ n % b = n.tmod b + b := by
  have h1 := Int.tmod_add_mul_tdiv n b
  have h2 := Int.lt_tmod_of_pos n hb
  have := (Int.ediv_emod_unique (a := n) (b := b) (r := n.tmod b + b) (q := n.tdiv b - 1) hb).2 ⟨by rw [Int.mul_sub]; omega, by omega, by omega⟩
  exact this
theorem floor_pos {n b : Int} (hb : 0 < b) (h : 0 ≤ n.tmod b) : n / b = n.tdiv b ∧ n % b = n.tmod b := by
  have h1 := Int.tmod_add_mul_tdiv n b
  have h2 := Int.tmod_lt_of_pos n hb
  have := (Int.ediv_emod_unique (a := n) (b := b) (r := n.tmod b) (q := n.tdiv b) hb).2 ⟨by omega, h, h2⟩
  exact this
theorem tdiv_bd {n b : Int} (hb : 0 < b) (h1 : -4611686018427387904 ≤ n) (h2 : n ≤ 4611686018427387904) : -4611686018427387904 ≤ n.tdiv b ∧ n.tdiv b ≤ 4611686018427387904 := by
  have h := Int.natAbs_tdiv_le_natAbs n b
  omega

theorem tmod_bd {n b : Int} (hb : 0 < b) : -b < n.tmod b ∧ n.tmod b < b := ⟨Int.lt_tmod_of_pos n hb, Int.tmod_lt_of_pos n hb⟩
theorem nearP_bd {n b : Int} (hb : 0 < b) (h1 : -4611686018427387904 ≤ n) (h2 : n ≤ 4611686018427387904) : -4611686018427387905 ≤ nearP n b ∧ nearP n b ≤ 4611686018427387905 := by
  unfold nearP
  have e1 : -4611686018427387904 ≤ n / b ∧ n / b ≤ 4611686018427387904 := by
    have a1 := Int.emod_nonneg n (show b ≠ 0 by omega)
    have a2 := Int.emod_lt_of_pos n hb
    have a3 := Int.mul_ediv_add_emod n b
    constructor
    · rcases Int.le_total 0 n with h | h
      · have := Int.ediv_nonneg h (show 0 ≤ b by omega); omega
      · have : n ≤ n / b := Int.le_ediv_of_mul_le hb (by have := Int.mul_le_mul_of_nonpos_left (a := n) (b := b) (c := 1) h (by omega); omega)
        omega
    · rcases Int.le_total 0 n with h | h
      · have := Int.ediv_le_self b h; omega
      · have := Int.ediv_nonpos_of_nonpos_of_neg h hb
        omega
  split <;> omega
set_option maxHeartbeats 1000000 in
theorem near_pos (n b : Int) (w : World) (h1 : -4611686018427387904 ≤ n) (h2 : n ≤ 4611686018427387904) (hb : 0 < b) (hb2 : b ≤ 1152921504606846976) : Calls Try.prog 52 #[.int .i64 n, .int .i64 b] w fun e w' => e = .returned (.int .i64 (nearP n b)) ∧ Below w.heap.size w w' := by
  go_enter Try.func52, Try.ntmps52
  go_wp2
  have hb0 : ¬ b = 0 := by omega
  obtain ⟨q1, q2⟩ := tdiv_bd (n := n) (b := b) (by omega) (by omega) (by omega)
  obtain ⟨r1, r2⟩ := tmod_bd (n := n) (b := b) (by omega)
  have fn := floor_neg (n := n) (b := b) (by omega)
  have fp := floor_pos (n := n) (b := b) (by omega)
  have FN := Lib.hid fn
  have FP := Lib.hid fp
  clear fn fp
  have w1 : IntKind.i64.wrap (n.tdiv b) = n.tdiv b := IntWalk.i64_in _ (by omega)
  have hK : Keep w w (w) 0 (w) := Keep.start (by (repeat (first | with_reducible exact Below.refl _ _ | with_reducible apply below_alloc | with_reducible apply below_drew1 | with_reducible assumption | (with_reducible refine Keep.below (by assumption)) | (with_reducible refine bel ?_ (by assumption)) | ((with_reducible refine below_set ?_ ?_); rotate_left; (focus (first | assumption | omega | (simp; done) | (simp; omega))))))) (by first | assumption | omega | (simp; done) | (simp; omega))
  refine wp_region_noPanic ?_
  refine wp_region_held_drew (S := fun W_ => (∀ b_ o_, b_ < w.heap.size + 0 → W_.cell? ⟨b_, o_, none⟩ = (w).cell? ⟨b_, o_, none⟩) ∧ w.heap.size + 0 ≤ W_.heap.size ∧ Below w.heap.size w W_) (by kernel_rfl) (show Keep w w (w) 0 _ by (repeat (first | with_reducible assumption | with_reducible apply Keep.alloc | with_reducible apply Keep.drew | ((with_reducible refine Keep.set ?_ ?_ ?_); rotate_left; (focus (first | assumption | omega | (simp; done) | (simp; omega))); (focus (first | assumption | omega | (simp; done) | (simp; omega))))))) (fun hHeld => ?_)
  refine wpAnyH_take (i := 0) (oi := { dst := some 13, op := Go.Op.move (Go.Operand.tmp 0), type := 3, pos := "rect.go:159", after := #[], guard := none }) (v := ?_) rfl (by kernel_rfl) (by kernel_rfl) (by kernel_rfl) (fun _ _ _ h => h) (Or.inl ⟨by rfl, ?_⟩) hHeld ?_
  rotate_left
  · intro W_ hSw
    obtain ⟨hS1, hS2, hS3⟩ := hSw
    go_simp
    try with_reducible rfl
  (try simp only [Act.put, List.setIfInBounds_toArray, List.set_cons_zero, List.set_cons_succ])
  refine wpAnyH_take (i := 1) (oi := { dst := some 14, op := Go.Op.move (Go.Operand.tmp 1), type := 3, pos := "rect.go:159", after := #[], guard := none }) (v := ?_) rfl (by kernel_rfl) (by kernel_rfl) (by kernel_rfl) (fun _ _ _ h => h) (Or.inl ⟨by rfl, ?_⟩) hHeld ?_
  rotate_left
  · intro W_ hSw
    obtain ⟨hS1, hS2, hS3⟩ := hSw
    go_simp
    try with_reducible rfl
  (try simp only [Act.put, List.setIfInBounds_toArray, List.set_cons_zero, List.set_cons_succ])
  refine wpAnyH_take (i := 2) (oi := { dst := some 15, op := Go.Op.binOp Go.BinOp.quo 3 (Go.Operand.tmp 13) (Go.Operand.tmp 14) 3, type := 3, pos := "rect.go:159", after := #[{ on := 0, ground := Go.Ground.data }, { on := 1, ground := Go.Ground.data }], guard := none }) (v := ?_) rfl (by kernel_rfl) (by kernel_rfl) (by kernel_rfl) (fun _ _ _ h => h) (Or.inl ⟨by rfl, ?_⟩) hHeld ?_
  rotate_left
  · intro W_ hSw
    obtain ⟨hS1, hS2, hS3⟩ := hSw
    go_simp
    try with_reducible rfl
  (try simp only [Act.put, List.setIfInBounds_toArray, List.set_cons_zero, List.set_cons_succ])
  refine wpAnyH_take (i := 3) (oi := { dst := some 16, op := Go.Op.move (Go.Operand.tmp 0), type := 3, pos := "rect.go:159", after := #[{ on := 6, ground := Go.Ground.gcOnly Go.Departure.lateStores }], guard := none }) (v := ?_) rfl (by kernel_rfl) (by kernel_rfl) (by kernel_rfl) (fun _ _ _ h => h) (Or.inl ⟨by rfl, ?_⟩) hHeld ?_
  rotate_left
  · intro W_ hSw
    obtain ⟨hS1, hS2, hS3⟩ := hSw
    go_simp
    try with_reducible rfl
  (try simp only [Act.put, List.setIfInBounds_toArray, List.set_cons_zero, List.set_cons_succ])
  refine wpAnyH_take (i := 4) (oi := { dst := some 17, op := Go.Op.move (Go.Operand.tmp 1), type := 3, pos := "rect.go:159", after := #[{ on := 6, ground := Go.Ground.gcOnly Go.Departure.lateStores }], guard := none }) (v := ?_) rfl (by kernel_rfl) (by kernel_rfl) (by kernel_rfl) (fun _ _ _ h => h) (Or.inl ⟨by rfl, ?_⟩) hHeld ?_
  rotate_left
  · intro W_ hSw
    obtain ⟨hS1, hS2, hS3⟩ := hSw
    go_simp
    try with_reducible rfl
  (try simp only [Act.put, List.setIfInBounds_toArray, List.set_cons_zero, List.set_cons_succ])
  refine wpAnyH_take (i := 5) (oi := { dst := some 18, op := Go.Op.binOp Go.BinOp.rem 3 (Go.Operand.tmp 16) (Go.Operand.tmp 17) 3, type := 3, pos := "rect.go:159", after := #[{ on := 3, ground := Go.Ground.data }, { on := 4, ground := Go.Ground.data }, { on := 6, ground := Go.Ground.gcOnly Go.Departure.lateStores }], guard := none }) (v := ?_) rfl (by kernel_rfl) (by kernel_rfl) (by kernel_rfl) (fun _ _ _ h => h) (Or.inl ⟨by rfl, ?_⟩) hHeld ?_
  rotate_left
  · intro W_ hSw
    obtain ⟨hS1, hS2, hS3⟩ := hSw
    go_simp
    try with_reducible rfl
  (try simp only [Act.put, List.setIfInBounds_toArray, List.set_cons_zero, List.set_cons_succ])
  refine wpAnyH_take (i := 6) (oi := { dst := some 5, op := Go.Op.assign (Go.Operand.tmp 15), type := 3, pos := "rect.go:159", after := #[{ on := 2, ground := Go.Ground.data }, { on := 0, ground := Go.Ground.phase }, { on := 1, ground := Go.Ground.phase }, { on := 2, ground := Go.Ground.phase }, { on := 3, ground := Go.Ground.textOnly Go.Departure.lateStores }, { on := 4, ground := Go.Ground.textOnly Go.Departure.lateStores }, { on := 5, ground := Go.Ground.textOnly Go.Departure.lateStores }], guard := none }) (v := ?_) rfl (by kernel_rfl) (by kernel_rfl) (by kernel_rfl) (fun _ _ _ h => h) (Or.inl ⟨by rfl, ?_⟩) hHeld ?_
  rotate_left
  · intro W_ hSw
    obtain ⟨hS1, hS2, hS3⟩ := hSw
    go_simp
    try with_reducible rfl
  (try simp only [Act.put, List.setIfInBounds_toArray, List.set_cons_zero, List.set_cons_succ])
  refine wpAnyH_take (i := 7) (oi := { dst := some 6, op := Go.Op.assign (Go.Operand.tmp 18), type := 3, pos := "rect.go:159", after := #[{ on := 5, ground := Go.Ground.data }, { on := 6, ground := Go.Ground.chain }, { on := 0, ground := Go.Ground.phase }, { on := 1, ground := Go.Ground.phase }, { on := 2, ground := Go.Ground.phase }, { on := 3, ground := Go.Ground.phase }, { on := 4, ground := Go.Ground.phase }, { on := 5, ground := Go.Ground.phase }, { on := 6, ground := Go.Ground.phase }], guard := none }) (v := ?_) rfl (by kernel_rfl) (by kernel_rfl) (by kernel_rfl) (fun _ _ _ h => h) (Or.inl ⟨by rfl, ?_⟩) hHeld ?_
  rotate_left
  · intro W_ hSw
    obtain ⟨hS1, hS2, hS3⟩ := hSw
    go_simp
    try with_reducible rfl
  (try simp only [Act.put, List.setIfInBounds_toArray, List.set_cons_zero, List.set_cons_succ])
  refine wpAnyH_done (by kernel_rfl) ?_ _
  refine NoPanic.normal ?_
  by_cases c1 : n.tmod b < 0
  · by_cases c2 : b - (n.tmod b + b) ≤ n.tmod b + b
    · go_wp2
      go_ret
      exact ⟨ret_int (by unfold nearP; obtain ⟨e1, e2⟩ := FN.out c1; rw [e1, e2, if_pos (by omega)]; omega), by (repeat (first | with_reducible exact Below.refl _ _ | with_reducible apply below_alloc | with_reducible apply below_drew1 | with_reducible assumption | (with_reducible refine Keep.below (by assumption)) | (with_reducible refine bel ?_ (by assumption)) | ((with_reducible refine below_set ?_ ?_); rotate_left; (focus (first | assumption | omega | (simp; done) | (simp; omega))))))⟩
    · go_wp2
      go_ret
      exact ⟨ret_int (by unfold nearP; obtain ⟨e1, e2⟩ := FN.out c1; rw [e1, e2, if_neg (by omega)]; omega), by (repeat (first | with_reducible exact Below.refl _ _ | with_reducible apply below_alloc | with_reducible apply below_drew1 | with_reducible assumption | (with_reducible refine Keep.below (by assumption)) | (with_reducible refine bel ?_ (by assumption)) | ((with_reducible refine below_set ?_ ?_); rotate_left; (focus (first | assumption | omega | (simp; done) | (simp; omega))))))⟩
  · by_cases c2 : b - n.tmod b ≤ n.tmod b
    · go_wp2
      go_ret
      exact ⟨ret_int (by unfold nearP; obtain ⟨e1, e2⟩ := FP.out (by omega); rw [e1, e2, if_pos (by omega)]), by (repeat (first | with_reducible exact Below.refl _ _ | with_reducible apply below_alloc | with_reducible apply below_drew1 | with_reducible assumption | (with_reducible refine Keep.below (by assumption)) | (with_reducible refine bel ?_ (by assumption)) | ((with_reducible refine below_set ?_ ?_); rotate_left; (focus (first | assumption | omega | (simp; done) | (simp; omega))))))⟩
    · go_wp2
      go_ret
      exact ⟨ret_int (by unfold nearP; obtain ⟨e1, e2⟩ := FP.out (by omega); rw [e1, e2, if_neg (by omega)]; omega), by (repeat (first | with_reducible exact Below.refl _ _ | with_reducible apply below_alloc | with_reducible apply below_drew1 | with_reducible assumption | (with_reducible refine Keep.below (by assumption)) | (with_reducible refine bel ?_ (by assumption)) | ((with_reducible refine below_set ?_ ?_); rotate_left; (focus (first | assumption | omega | (simp; done) | (simp; omega))))))⟩
set_option maxHeartbeats 1000000 in
theorem near_neg (n b : Int) (w : World) (h1 : -4611686018427387904 ≤ n) (h2 : n ≤ 4611686018427387904) (hb : b < 0) (hb2 : -1152921504606846976 ≤ b) : Calls Try.prog 52 #[.int .i64 n, .int .i64 b] w fun e w' => e = .returned (.int .i64 (nearP (-n) (-b))) ∧ Below w.heap.size w w' := by
  go_enter Try.func52, Try.ntmps52
  go_wp2
  generalize hN : -n = N
  generalize hB : -b = B
  have hN1 : -4611686018427387904 ≤ N := by omega
  have hN2 : N ≤ 4611686018427387904 := by omega
  have hB1 : 0 < B := by omega
  have hB2 : B ≤ 1152921504606846976 := by omega
  have HN := Lib.hid hN
  have HB := Lib.hid hB
  clear hN hB
  have hb0 : ¬ B = 0 := by omega
  obtain ⟨q1, q2⟩ := tdiv_bd (n := N) (b := B) (by omega) (by omega) (by omega)
  obtain ⟨r1, r2⟩ := tmod_bd (n := N) (b := B) (by omega)
  have fn := floor_neg (n := N) (b := B) (by omega)
  have fp := floor_pos (n := N) (b := B) (by omega)
  have FN := Lib.hid fn
  have FP := Lib.hid fp
  clear fn fp
  have w1 : IntKind.i64.wrap (N.tdiv B) = N.tdiv B := IntWalk.i64_in _ (by omega)
  have hK : Keep w w (w) 0 (w) := Keep.start (by (repeat (first | with_reducible exact Below.refl _ _ | with_reducible apply below_alloc | with_reducible apply below_drew1 | with_reducible assumption | (with_reducible refine Keep.below (by assumption)) | (with_reducible refine bel ?_ (by assumption)) | ((with_reducible refine below_set ?_ ?_); rotate_left; (focus (first | assumption | omega | (simp; done) | (simp; omega))))))) (by first | assumption | omega | (simp; done) | (simp; omega))
  refine wp_region_noPanic ?_
  refine wp_region_held_drew (S := fun W_ => (∀ b_ o_, b_ < w.heap.size + 0 → W_.cell? ⟨b_, o_, none⟩ = (w).cell? ⟨b_, o_, none⟩) ∧ w.heap.size + 0 ≤ W_.heap.size ∧ Below w.heap.size w W_) (by kernel_rfl) (show Keep w w (w) 0 _ by (repeat (first | with_reducible assumption | with_reducible apply Keep.alloc | with_reducible apply Keep.drew | ((with_reducible refine Keep.set ?_ ?_ ?_); rotate_left; (focus (first | assumption | omega | (simp; done) | (simp; omega))); (focus (first | assumption | omega | (simp; done) | (simp; omega))))))) (fun hHeld => ?_)
  refine wpAnyH_take (i := 0) (oi := { dst := some 13, op := Go.Op.move (Go.Operand.tmp 0), type := 3, pos := "rect.go:159", after := #[], guard := none }) (v := ?_) rfl (by kernel_rfl) (by kernel_rfl) (by kernel_rfl) (fun _ _ _ h => h) (Or.inl ⟨by rfl, ?_⟩) hHeld ?_
  rotate_left
  · intro W_ hSw
    obtain ⟨hS1, hS2, hS3⟩ := hSw
    go_simp
    try with_reducible rfl
  (try simp only [Act.put, List.setIfInBounds_toArray, List.set_cons_zero, List.set_cons_succ])
  refine wpAnyH_take (i := 1) (oi := { dst := some 14, op := Go.Op.move (Go.Operand.tmp 1), type := 3, pos := "rect.go:159", after := #[], guard := none }) (v := ?_) rfl (by kernel_rfl) (by kernel_rfl) (by kernel_rfl) (fun _ _ _ h => h) (Or.inl ⟨by rfl, ?_⟩) hHeld ?_
  rotate_left
  · intro W_ hSw
    obtain ⟨hS1, hS2, hS3⟩ := hSw
    go_simp
    try with_reducible rfl
  (try simp only [Act.put, List.setIfInBounds_toArray, List.set_cons_zero, List.set_cons_succ])
  refine wpAnyH_take (i := 2) (oi := { dst := some 15, op := Go.Op.binOp Go.BinOp.quo 3 (Go.Operand.tmp 13) (Go.Operand.tmp 14) 3, type := 3, pos := "rect.go:159", after := #[{ on := 0, ground := Go.Ground.data }, { on := 1, ground := Go.Ground.data }], guard := none }) (v := ?_) rfl (by kernel_rfl) (by kernel_rfl) (by kernel_rfl) (fun _ _ _ h => h) (Or.inl ⟨by rfl, ?_⟩) hHeld ?_
  rotate_left
  · intro W_ hSw
    obtain ⟨hS1, hS2, hS3⟩ := hSw
    go_simp
    try with_reducible rfl
  (try simp only [Act.put, List.setIfInBounds_toArray, List.set_cons_zero, List.set_cons_succ])
  refine wpAnyH_take (i := 3) (oi := { dst := some 16, op := Go.Op.move (Go.Operand.tmp 0), type := 3, pos := "rect.go:159", after := #[{ on := 6, ground := Go.Ground.gcOnly Go.Departure.lateStores }], guard := none }) (v := ?_) rfl (by kernel_rfl) (by kernel_rfl) (by kernel_rfl) (fun _ _ _ h => h) (Or.inl ⟨by rfl, ?_⟩) hHeld ?_
  rotate_left
  · intro W_ hSw
    obtain ⟨hS1, hS2, hS3⟩ := hSw
    go_simp
    try with_reducible rfl
  (try simp only [Act.put, List.setIfInBounds_toArray, List.set_cons_zero, List.set_cons_succ])
  refine wpAnyH_take (i := 4) (oi := { dst := some 17, op := Go.Op.move (Go.Operand.tmp 1), type := 3, pos := "rect.go:159", after := #[{ on := 6, ground := Go.Ground.gcOnly Go.Departure.lateStores }], guard := none }) (v := ?_) rfl (by kernel_rfl) (by kernel_rfl) (by kernel_rfl) (fun _ _ _ h => h) (Or.inl ⟨by rfl, ?_⟩) hHeld ?_
  rotate_left
  · intro W_ hSw
    obtain ⟨hS1, hS2, hS3⟩ := hSw
    go_simp
    try with_reducible rfl
  (try simp only [Act.put, List.setIfInBounds_toArray, List.set_cons_zero, List.set_cons_succ])
  refine wpAnyH_take (i := 5) (oi := { dst := some 18, op := Go.Op.binOp Go.BinOp.rem 3 (Go.Operand.tmp 16) (Go.Operand.tmp 17) 3, type := 3, pos := "rect.go:159", after := #[{ on := 3, ground := Go.Ground.data }, { on := 4, ground := Go.Ground.data }, { on := 6, ground := Go.Ground.gcOnly Go.Departure.lateStores }], guard := none }) (v := ?_) rfl (by kernel_rfl) (by kernel_rfl) (by kernel_rfl) (fun _ _ _ h => h) (Or.inl ⟨by rfl, ?_⟩) hHeld ?_
  rotate_left
  · intro W_ hSw
    obtain ⟨hS1, hS2, hS3⟩ := hSw
    go_simp
    try with_reducible rfl
  (try simp only [Act.put, List.setIfInBounds_toArray, List.set_cons_zero, List.set_cons_succ])
  refine wpAnyH_take (i := 6) (oi := { dst := some 5, op := Go.Op.assign (Go.Operand.tmp 15), type := 3, pos := "rect.go:159", after := #[{ on := 2, ground := Go.Ground.data }, { on := 0, ground := Go.Ground.phase }, { on := 1, ground := Go.Ground.phase }, { on := 2, ground := Go.Ground.phase }, { on := 3, ground := Go.Ground.textOnly Go.Departure.lateStores }, { on := 4, ground := Go.Ground.textOnly Go.Departure.lateStores }, { on := 5, ground := Go.Ground.textOnly Go.Departure.lateStores }], guard := none }) (v := ?_) rfl (by kernel_rfl) (by kernel_rfl) (by kernel_rfl) (fun _ _ _ h => h) (Or.inl ⟨by rfl, ?_⟩) hHeld ?_
  rotate_left
  · intro W_ hSw
    obtain ⟨hS1, hS2, hS3⟩ := hSw
    go_simp
    try with_reducible rfl
  (try simp only [Act.put, List.setIfInBounds_toArray, List.set_cons_zero, List.set_cons_succ])
  refine wpAnyH_take (i := 7) (oi := { dst := some 6, op := Go.Op.assign (Go.Operand.tmp 18), type := 3, pos := "rect.go:159", after := #[{ on := 5, ground := Go.Ground.data }, { on := 6, ground := Go.Ground.chain }, { on := 0, ground := Go.Ground.phase }, { on := 1, ground := Go.Ground.phase }, { on := 2, ground := Go.Ground.phase }, { on := 3, ground := Go.Ground.phase }, { on := 4, ground := Go.Ground.phase }, { on := 5, ground := Go.Ground.phase }, { on := 6, ground := Go.Ground.phase }], guard := none }) (v := ?_) rfl (by kernel_rfl) (by kernel_rfl) (by kernel_rfl) (fun _ _ _ h => h) (Or.inl ⟨by rfl, ?_⟩) hHeld ?_
  rotate_left
  · intro W_ hSw
    obtain ⟨hS1, hS2, hS3⟩ := hSw
    go_simp
    try with_reducible rfl
  (try simp only [Act.put, List.setIfInBounds_toArray, List.set_cons_zero, List.set_cons_succ])
  refine wpAnyH_done (by kernel_rfl) ?_ _
  refine NoPanic.normal ?_
  by_cases c1 : N.tmod B < 0
  · by_cases c2 : B - (N.tmod B + B) ≤ N.tmod B + B
    · go_wp2
      go_ret
      exact ⟨ret_int (by rw [HN.out, HB.out]; unfold nearP; obtain ⟨e1, e2⟩ := FN.out c1; rw [e1, e2, if_pos (by omega)]; omega), by (repeat (first | with_reducible exact Below.refl _ _ | with_reducible apply below_alloc | with_reducible apply below_drew1 | with_reducible assumption | (with_reducible refine Keep.below (by assumption)) | (with_reducible refine bel ?_ (by assumption)) | ((with_reducible refine below_set ?_ ?_); rotate_left; (focus (first | assumption | omega | (simp; done) | (simp; omega))))))⟩
    · go_wp2
      go_ret
      exact ⟨ret_int (by rw [HN.out, HB.out]; unfold nearP; obtain ⟨e1, e2⟩ := FN.out c1; rw [e1, e2, if_neg (by omega)]; omega), by (repeat (first | with_reducible exact Below.refl _ _ | with_reducible apply below_alloc | with_reducible apply below_drew1 | with_reducible assumption | (with_reducible refine Keep.below (by assumption)) | (with_reducible refine bel ?_ (by assumption)) | ((with_reducible refine below_set ?_ ?_); rotate_left; (focus (first | assumption | omega | (simp; done) | (simp; omega))))))⟩
  · by_cases c2 : B - N.tmod B ≤ N.tmod B
    · go_wp2
      go_ret
      exact ⟨ret_int (by rw [HN.out, HB.out]; unfold nearP; obtain ⟨e1, e2⟩ := FP.out (by omega); rw [e1, e2, if_pos (by omega)]), by (repeat (first | with_reducible exact Below.refl _ _ | with_reducible apply below_alloc | with_reducible apply below_drew1 | with_reducible assumption | (with_reducible refine Keep.below (by assumption)) | (with_reducible refine bel ?_ (by assumption)) | ((with_reducible refine below_set ?_ ?_); rotate_left; (focus (first | assumption | omega | (simp; done) | (simp; omega))))))⟩
    · go_wp2
      go_ret
      exact ⟨ret_int (by rw [HN.out, HB.out]; unfold nearP; obtain ⟨e1, e2⟩ := FP.out (by omega); rw [e1, e2, if_neg (by omega)]; omega), by (repeat (first | with_reducible exact Below.refl _ _ | with_reducible apply below_alloc | with_reducible apply below_drew1 | with_reducible assumption | (with_reducible refine Keep.below (by assumption)) | (with_reducible refine bel ?_ (by assumption)) | ((with_reducible refine below_set ?_ ?_); rotate_left; (focus (first | assumption | omega | (simp; done) | (simp; omega))))))⟩
theorem near_any (n b : Int) (w : World) (h1 : -4611686018427387904 ≤ n) (h2 : n ≤ 4611686018427387904) (hb : ¬ b = 0) (hb1 : -1152921504606846976 ≤ b) (hb2 : b ≤ 1152921504606846976) :
    Calls Try.prog 52 #[.int .i64 n, .int .i64 b] w fun e w' => e = .returned (.int .i64 (nearF n b)) ∧ Below w.heap.size w w' := by
  unfold nearF
  by_cases c : b < 0
  · rw [if_pos c]; exact near_neg n b w h1 h2 c hb1
  · rw [if_neg c]; exact near_pos n b w h1 h2 (by omega) hb2
end Go.Proofs.Ytjekoaodgdodjaa
