/- The contracts over arrays that are not looked into; vector.Compare. -/
import Derived.Test.YtidfmpiliinmeaaQ
import Derived.Test.YtidfmpiliinmeaaC
import Derived.Test.YtidfmpiliinmeaaT
import Derived.Test.YtidfmpiliinmeaaArr
set_option linter.unusedVariables false
set_option linter.unusedSimpArgs false
namespace Go.Proofs.Ytidfmpiliinmeaa
open Go.RowKit
open Go.Proofs.YtidfmpiliinmeaaW.PrintWords (own_reads nums)
def CS (a : Nat → Int) : Array Value := #[.int .i64 (a 0), .int .i64 (a 1), .int .i64 (a 2), .int .i64 (a 3), .int .i64 (a 4), .int .i64 (a 5), .int .i64 (a 6), .int .i64 (a 7), .int .i64 (a 8), .int .i64 (a 9), .int .i64 (a 10), .int .i64 (a 11), .int .i64 (a 12), .int .i64 (a 13), .int .i64 (a 14), .int .i64 (a 15)]
def LS (a : Nat → Int) : List Int := [a 0, a 1, a 2, a 3, a 4, a 5, a 6, a 7, a 8, a 9, a 10, a 11, a 12, a 13, a 14, a 15]
def mxF (a b : Nat → Int) (i : Nat) : Int := max (a i) (b i)
def mnF (a b : Nat → Int) (i : Nat) : Int := min (a i) (b i)
/-- Two vectors are one. -/
def eqV (a b : Nat → Int) : Bool := eqL (LS a) (LS b)
theorem eqV_iff (a b : Nat → Int) : eqV a b = true ↔ ∀ i, i < 16 → a i = b i := by
  simp only [eqV, eqL, decide_eq_true_iff, LS, List.cons.injEq, and_true]
  constructor
  · rintro ⟨h0, h1, h2, h3, h4, h5, h6, h7, h8, h9, h10, h11, h12, h13, h14, h15⟩ i hi
    rcases (show i = 0 ∨ i = 1 ∨ i = 2 ∨ i = 3 ∨ i = 4 ∨ i = 5 ∨ i = 6 ∨ i = 7 ∨ i = 8 ∨ i = 9 ∨ i = 10 ∨ i = 11 ∨ i = 12 ∨ i = 13 ∨ i = 14 ∨ i = 15 by omega) with rfl | rfl | rfl | rfl | rfl | rfl | rfl | rfl | rfl | rfl | rfl | rfl | rfl | rfl | rfl | rfl <;> assumption
  · intro h
    exact ⟨h 0 (by omega), h 1 (by omega), h 2 (by omega), h 3 (by omega), h 4 (by omega), h 5 (by omega), h 6 (by omega), h 7 (by omega), h 8 (by omega), h 9 (by omega), h 10 (by omega), h 11 (by omega), h 12 (by omega), h 13 (by omega), h 14 (by omega), h 15 (by omega)⟩
theorem eqV_is (a b : Nat → Int) (W : World) : (Op.equalIn 10000 24 (.agg (CS a)) (.agg (CS b))).run Try.prog W = .ok (eqV a b) W := eq24 (a 0) (a 1) (a 2) (a 3) (a 4) (a 5) (a 6) (a 7) (a 8) (a 9) (a 10) (a 11) (a 12) (a 13) (a 14) (a 15) (b 0) (b 1) (b 2) (b 3) (b 4) (b 5) (b 6) (b 7) (b 8) (b 9) (b 10) (b 11) (b 12) (b 13) (b 14) (b 15) W
theorem joinV (a b : Nat → Int) (w : World) : Calls Try.prog 7 #[.agg (CS a), .agg (CS b)] w fun e w' => e = .returned (.agg (CS (mxF a b))) ∧ Below w.heap.size w w' := join_any a b w
theorem meetV (a b : Nat → Int) (w : World) : Calls Try.prog 8 #[.agg (CS a), .agg (CS b)] w fun e w' => e = .returned (.agg (CS (mnF a b))) ∧ Below w.heap.size w w' := meet_any a b w
theorem coversV (a b : Nat → Int) (w : World) : Calls Try.prog 9 #[.agg (CS a), .agg (CS b)] w fun e w' => e = .returned (.bool (eqV (mxF a b) a)) ∧ Below w.heap.size w w' := covers_any a b w
theorem rightV (a : Nat → Int) (w : World) : Calls Try.prog 12 #[.agg (CS a)] w fun e w' => e = .returned (.bool (rightB a)) ∧ Below w.heap.size w w' := right_any a w
theorem totalV (a : Nat → Int) (w : World) : Calls Try.prog 13 #[.agg (CS a)] w fun e w' => e = .returned (.int .i64 (totalI a)) ∧ Below w.heap.size w w' := total_any a w
theorem putV_yes (a : Nat → Int) (w : World) (h : rightB a = true) : Calls Try.prog 14 #[.agg (CS a)] w (PutPost a w) := put_yes a w h
theorem putV_no (a : Nat → Int) (w : World) (h : rightB a = false) : Calls Try.prog 14 #[.agg (CS a)] w fun e w' => e = .returned (.tuple #[.slice none 0 0, .int .i64 1]) ∧ Below w.heap.size w w' := put_no a w h
theorem CS_size (a : Nat → Int) : (CS a).size = 16 := rfl
theorem info24 (a : Nat → Int) : (Try.prog.info? 24).map (·.size) = some (CS a).size := by
  rw [CS_size]
  kernel_rfl
theorem info23 (a : Nat → Int) : (Try.prog.info? 23).map (·.size) = some (CS a).size := by
  rw [CS_size]
  kernel_rfl
attribute [local go_sem] eqV_is
def cmpF (a b : Nat → Int) : Int := if eqV (mxF a b) (mnF a b) = true then 0 else if eqV (mxF a b) a = true then 1 else if eqV (mxF a b) b = true then -1 else 2
set_option maxHeartbeats 4000000 in
theorem compareV (a b : Nat → Int) (w : World) : Calls Try.prog 10 #[.agg (CS a), .agg (CS b)] w fun e w' => e = .returned (.int .i64 (cmpF a b)) ∧ Below w.heap.size w w' := by
  have hA : ((w.alloc (.cells (CS a) 24)).alloc (.cells (CS b) 24)).heap[w.heap.size]? = some (.cells (CS a) 24 (0, 0)) := (heap_alloc_old _ _ (by simp)).trans (heap_alloc_new w _)
  have hB : ((w.alloc (.cells (CS a) 24)).alloc (.cells (CS b) 24)).heap[w.heap.size + 1]? = some (.cells (CS b) 24 (0, 0)) := by
    have := heap_alloc_new (w.alloc (.cells (CS a) 24)) (.cells (CS b) 24)
    simpa using this
  go_enter Try.func10, Try.ntmps10
  go_wp2_with (first
    | (refine wpList_load_row rfl 24 (.tmp 2) rfl _ rfl 24 (CS a) (0, 0) _ hA Try.underlying24 rfl (info24 a) ?_)
    | (refine wpList_load_row rfl 24 (.tmp 3) rfl _ rfl 24 (CS b) (0, 0) _ hB Try.underlying24 rfl (info24 b) ?_)
    | (go_at_call 7; refine (joinV a b _).mono ?_; rintro e w1 ⟨rfl, hb⟩; replace hA := (hb.block _ (heap_lt hA)).trans hA; replace hB := (hb.block _ (heap_lt hB)).trans hB)
    | (go_at_call 8; refine (meetV a b _).mono ?_; rintro e w2 ⟨rfl, hb2⟩; replace hA := (hb2.block _ (heap_lt hA)).trans hA; replace hB := (hb2.block _ (heap_lt hB)).trans hB))
  all_goals
    go_ret
    exact ⟨ret_int (by simp [cmpF, *]), by (repeat (first | with_reducible exact Below.refl _ _ | with_reducible apply below_alloc | with_reducible apply below_drew1 | with_reducible assumption | (with_reducible refine Keep.below (by assumption)) | (with_reducible refine bel ?_ (by assumption)) | ((with_reducible refine below_set ?_ ?_); rotate_left; (focus (first | assumption | omega | (simp; done) | (simp; omega))))))⟩
end Go.Proofs.Ytidfmpiliinmeaa
