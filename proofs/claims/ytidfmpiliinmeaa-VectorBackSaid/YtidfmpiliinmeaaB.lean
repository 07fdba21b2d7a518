/- Walk of vector.Meet. -/
import Derived.Test.YtidfmpiliinmeaaA
set_option linter.unusedVariables false
set_option linter.unusedSimpArgs false
namespace Go.Proofs.Ytidfmpiliinmeaa
open Go.RowKit
theorem min_if (x y : Int) : (if y < x then y else x) = min x y := by omega

set_option maxHeartbeats 4000000 in
theorem meet_any (a b : Nat → Int) (w : World) :
    Calls Try.prog 8 #[.agg #[.int .i64 (a 0), .int .i64 (a 1), .int .i64 (a 2), .int .i64 (a 3), .int .i64 (a 4), .int .i64 (a 5), .int .i64 (a 6), .int .i64 (a 7), .int .i64 (a 8), .int .i64 (a 9), .int .i64 (a 10), .int .i64 (a 11), .int .i64 (a 12), .int .i64 (a 13), .int .i64 (a 14), .int .i64 (a 15)], .agg #[.int .i64 (b 0), .int .i64 (b 1), .int .i64 (b 2), .int .i64 (b 3), .int .i64 (b 4), .int .i64 (b 5), .int .i64 (b 6), .int .i64 (b 7), .int .i64 (b 8), .int .i64 (b 9), .int .i64 (b 10), .int .i64 (b 11), .int .i64 (b 12), .int .i64 (b 13), .int .i64 (b 14), .int .i64 (b 15)]] w fun e w' => e = .returned (.agg #[.int .i64 (min (a 0) (b 0)), .int .i64 (min (a 1) (b 1)), .int .i64 (min (a 2) (b 2)), .int .i64 (min (a 3) (b 3)), .int .i64 (min (a 4) (b 4)), .int .i64 (min (a 5) (b 5)), .int .i64 (min (a 6) (b 6)), .int .i64 (min (a 7) (b 7)), .int .i64 (min (a 8) (b 8)), .int .i64 (min (a 9) (b 9)), .int .i64 (min (a 10) (b 10)), .int .i64 (min (a 11) (b 11)), .int .i64 (min (a 12) (b 12)), .int .i64 (min (a 13) (b 13)), .int .i64 (min (a 14) (b 14)), .int .i64 (min (a 15) (b 15))]) ∧ Below w.heap.size w w' := by
  go_enter Try.func8, Try.ntmps8
  go_wp2
  go_loopw [8] (fun t wr => ∃ k : Nat, k ≤ 16 ∧ t = .int .i64 k ∧ (∀ j, j < 16 → wr.cell? ⟨w.heap.size, j, none⟩ = some (.int .i64 (if j < k then min (a j) (b j) else a j))) ∧ (∀ j, wr.frozen? ⟨w.heap.size, j, none⟩ = false) ∧ (∀ j, j < 16 → wr.cell? ⟨w.heap.size + 1 + 1, j, none⟩ = some (.int .i64 0)) ∧ (∀ j, wr.frozen? ⟨w.heap.size + 1 + 1, j, none⟩ = false) ∧ Below w.heap.size w wr ∧ w.heap.size + 3 ≤ wr.heap.size) (fun t _ => 16 - (intOf t).toNat)
  case atStart =>
    refine ⟨0, by omega, rfl, fun j hj => ?_, fun j => ?_, fun j hj => ?_, fun j => ?_, by (repeat (first | with_reducible exact Below.refl _ _ | with_reducible apply below_alloc | with_reducible apply below_drew1 | with_reducible assumption | (with_reducible refine Keep.below (by assumption)) | (with_reducible refine bel ?_ (by assumption)) | ((with_reducible refine below_set ?_ ?_); rotate_left; (focus (first | assumption | omega | (simp; done) | (simp; omega)))))), by simp⟩
    · exact start_cell (at0 _ _ _ _) (fun i hi => by rcases (show i = 0 ∨ i = 1 ∨ i = 2 ∨ i = 3 ∨ i = 4 ∨ i = 5 ∨ i = 6 ∨ i = 7 ∨ i = 8 ∨ i = 9 ∨ i = 10 ∨ i = 11 ∨ i = 12 ∨ i = 13 ∨ i = 14 ∨ i = 15 by omega) with rfl | rfl | rfl | rfl | rfl | rfl | rfl | rfl | rfl | rfl | rfl | rfl | rfl | rfl | rfl | rfl <;> rfl) j hj
    · go_simp
    · exact start_cell (f := fun _ => 0) (at2 _ _ _ _) (fun i hi => by rcases (show i = 0 ∨ i = 1 ∨ i = 2 ∨ i = 3 ∨ i = 4 ∨ i = 5 ∨ i = 6 ∨ i = 7 ∨ i = 8 ∨ i = 9 ∨ i = 10 ∨ i = 11 ∨ i = 12 ∨ i = 13 ∨ i = 14 ∨ i = 15 by omega) with rfl | rfl | rfl | rfl | rfl | rfl | rfl | rfl | rfl | rfl | rfl | rfl | rfl | rfl | rfl | rfl <;> rfl) j hj
    · go_simp
  case round =>
    obtain ⟨k, hk, rfl, hc, hf, hd, hg, hb, hs⟩ := hrel
    by_cases q : k < 16
    · have ik := fun W => ix b k q W
      have c := hc k q
      have f := hf k
      simp only [Nat.lt_irrefl, if_false] at c
      have Hc := Lib.hid hc
      have Hf := Lib.hid hf
      have Hd := Lib.hid hd
      have Hg := Lib.hid hg
      clear hc hf hd hg
      go_wp2
      go_roundw
      case rel =>
        refine ⟨k + 1, by omega, by go_num, fun j hj => ?_, fun j => ?_, fun j hj => ?_, fun j => ?_, below_set hb (Nat.le_refl _), by simpa using hs⟩
        · by_cases e : j = k
          · subst e
            rw [World.cell?_setCell_same (h := c), min_if, if_pos (show j < j + 1 by omega)]
          · rw [World.cell?_setCell_other (h := fun h => e (by simpa using h.symm)), Hc.out j hj]
            by_cases e2 : j < k
            · rw [if_pos e2, if_pos (by omega)]
            · rw [if_neg e2, if_neg (by omega)]
        · rw [World.frozen?_setCell]
          exact Hf.out j
        · rw [World.cell?_setCell_other (h := fun h => absurd (congrArg Addr.block h) (by show ¬ (w.heap.size = w.heap.size + 1 + 1); omega))]
          exact Hd.out j hj
        · rw [World.frozen?_setCell]
          exact Hg.out j
      case measure =>
        simp [intOf]
        omega
    · obtain rfl : k = 16 := by omega
      have c0 := hc 0 (by omega)
      have d0 := hd 0 (by omega)
      have g0 := hg 0
      rw [if_pos (by omega)] at c0
      have c1 := hc 1 (by omega)
      have d1 := hd 1 (by omega)
      have g1 := hg 1
      rw [if_pos (by omega)] at c1
      have c2 := hc 2 (by omega)
      have d2 := hd 2 (by omega)
      have g2 := hg 2
      rw [if_pos (by omega)] at c2
      have c3 := hc 3 (by omega)
      have d3 := hd 3 (by omega)
      have g3 := hg 3
      rw [if_pos (by omega)] at c3
      have c4 := hc 4 (by omega)
      have d4 := hd 4 (by omega)
      have g4 := hg 4
      rw [if_pos (by omega)] at c4
      have c5 := hc 5 (by omega)
      have d5 := hd 5 (by omega)
      have g5 := hg 5
      rw [if_pos (by omega)] at c5
      have c6 := hc 6 (by omega)
      have d6 := hd 6 (by omega)
      have g6 := hg 6
      rw [if_pos (by omega)] at c6
      have c7 := hc 7 (by omega)
      have d7 := hd 7 (by omega)
      have g7 := hg 7
      rw [if_pos (by omega)] at c7
      have c8 := hc 8 (by omega)
      have d8 := hd 8 (by omega)
      have g8 := hg 8
      rw [if_pos (by omega)] at c8
      have c9 := hc 9 (by omega)
      have d9 := hd 9 (by omega)
      have g9 := hg 9
      rw [if_pos (by omega)] at c9
      have c10 := hc 10 (by omega)
      have d10 := hd 10 (by omega)
      have g10 := hg 10
      rw [if_pos (by omega)] at c10
      have c11 := hc 11 (by omega)
      have d11 := hd 11 (by omega)
      have g11 := hg 11
      rw [if_pos (by omega)] at c11
      have c12 := hc 12 (by omega)
      have d12 := hd 12 (by omega)
      have g12 := hg 12
      rw [if_pos (by omega)] at c12
      have c13 := hc 13 (by omega)
      have d13 := hd 13 (by omega)
      have g13 := hg 13
      rw [if_pos (by omega)] at c13
      have c14 := hc 14 (by omega)
      have d14 := hd 14 (by omega)
      have g14 := hg 14
      rw [if_pos (by omega)] at c14
      have c15 := hc 15 (by omega)
      have d15 := hd 15 (by omega)
      have g15 := hg 15
      rw [if_pos (by omega)] at c15
      clear hc hf hd hg
      go_wp2
      exact bodyPost_ret (v := .agg #[.int .i64 (min (a 0) (b 0)), .int .i64 (min (a 1) (b 1)), .int .i64 (min (a 2) (b 2)), .int .i64 (min (a 3) (b 3)), .int .i64 (min (a 4) (b 4)), .int .i64 (min (a 5) (b 5)), .int .i64 (min (a 6) (b 6)), .int .i64 (min (a 7) (b 7)), .int .i64 (min (a 8) (b 8)), .int .i64 (min (a 9) (b 9)), .int .i64 (min (a 10) (b 10)), .int .i64 (min (a 11) (b 11)), .int .i64 (min (a 12) (b 12)), .int .i64 (min (a 13) (b 13)), .int .i64 (min (a 14) (b 14)), .int .i64 (min (a 15) (b 15))]) (by simp [results, Try.results8, go_sem, *]) rfl ⟨rfl, by (repeat (first | with_reducible exact Below.refl _ _ | with_reducible apply below_alloc | with_reducible apply below_drew1 | with_reducible assumption | (with_reducible refine Keep.below (by assumption)) | (with_reducible refine bel ?_ (by assumption)) | ((with_reducible refine below_set ?_ ?_); rotate_left; (focus (first | assumption | omega | (simp; done) | (simp; omega))))))⟩

end Go.Proofs.Ytidfmpiliinmeaa
