/- Walk of what every vector law knows. -/
import Derived.Test.YtidfmpiliinmeaaV
set_option linter.unusedVariables false
set_option linter.unusedSimpArgs false
namespace Go.Proofs.Ytidfmpiliinmeaa
open Go.RowKit
open Go.Proofs.YtidfmpiliinmeaaW.PrintWords (own_reads)
def fA (i : Nat) : Int := ([2, 0, 1] : List Int).getD i 0
def fB (i : Nat) : Int := ([1, 3] : List Int).getD i 0
def fJ (i : Nat) : Int := ([2, 3, 1] : List Int).getD i 0
theorem num_any (n : Int) (w : World) : Calls Try.prog 16 #[.int .i64 n] w fun e w' => e = .returned (.int .i64 n) ∧ w = w' := by
  go_enter Try.func16, Try.ntmps16
  go_wp2
  go_ret
  exact ⟨rfl, rfl⟩
theorem join_k (w : World) : Calls Try.prog 7 #[.agg (CS fA), .agg (CS fB)] w fun e w' => e = .returned (.agg (CS fJ)) ∧ Below w.heap.size w w' :=
  (joinV fA fB w).mono fun e w' ⟨he, hb⟩ => ⟨he, hb⟩
theorem put_k (w : World) : Calls Try.prog 14 #[.agg (CS fJ)] w fun e w' => (∃ A c, e = .returned (.tuple #[.slice A 8 c, .int .i64 0])) ∧ Below w.heap.size w w' :=
  (putV_yes fJ w (by decide)).mono fun e w' ⟨v, he, ho, hb⟩ => by
    obtain ⟨A, c, hv, _⟩ := own_reads ho
    rw [show (putL fJ).length = 8 by decide] at hv
    exact ⟨⟨A, c, by rw [he, hv]⟩, hb⟩
theorem compare_k (w : World) : Calls Try.prog 10 #[.agg (CS fA), .agg (CS fB)] w fun e w' => e = .returned (.int .i64 2) ∧ Below w.heap.size w w' :=
  (compareV fA fB w).mono fun e w' ⟨he, hb⟩ => ⟨by rw [he]; exact ret_int (by decide), hb⟩
theorem covers_ka (w : World) : Calls Try.prog 9 #[.agg (CS fJ), .agg (CS fA)] w fun e w' => e = .returned (.bool true) ∧ Below w.heap.size w w' :=
  (coversV fJ fA w).mono fun e w' ⟨he, hb⟩ => ⟨by rw [he, show eqV (mxF fJ fA) fJ = true by decide], hb⟩
theorem covers_kb (w : World) : Calls Try.prog 9 #[.agg (CS fJ), .agg (CS fB)] w fun e w' => e = .returned (.bool true) ∧ Below w.heap.size w w' :=
  (coversV fJ fB w).mono fun e w' ⟨he, hb⟩ => ⟨by rw [he, show eqV (mxF fJ fB) fJ = true by decide], hb⟩
theorem total_k (w : World) : Calls Try.prog 13 #[.agg (CS fJ)] w fun e w' => e = .returned (.int .i64 6) ∧ Below w.heap.size w w' :=
  (totalV fJ w).mono fun e w' ⟨he, hb⟩ => ⟨by rw [he]; exact ret_int (by decide), hb⟩
theorem eq_k (W : World) : (Op.equalIn 10000 24 (.agg (CS fJ)) (.agg #[.int .i64 2, .int .i64 3, .int .i64 1, .int .i64 0, .int .i64 0, .int .i64 0, .int .i64 0, .int .i64 0, .int .i64 0, .int .i64 0, .int .i64 0, .int .i64 0, .int .i64 0, .int .i64 0, .int .i64 0, .int .i64 0])).run Try.prog W = .ok true W :=
  (eqV_is fJ fJ W).trans (by rw [show eqV fJ fJ = true by decide])
set_option maxHeartbeats 4000000 in
theorem knows_any (w : World) : Calls Try.prog 11 #[] w fun e w' => e = .returned (.bool true) ∧ Below w.heap.size w w' := by
  have hA : ((w.alloc (.cells #[.int .i64 2, .int .i64 0, .int .i64 1, .int .i64 0, .int .i64 0, .int .i64 0, .int .i64 0, .int .i64 0, .int .i64 0, .int .i64 0, .int .i64 0, .int .i64 0, .int .i64 0, .int .i64 0, .int .i64 0, .int .i64 0] 24)).alloc (.cells #[.int .i64 1, .int .i64 3, .int .i64 0, .int .i64 0, .int .i64 0, .int .i64 0, .int .i64 0, .int .i64 0, .int .i64 0, .int .i64 0, .int .i64 0, .int .i64 0, .int .i64 0, .int .i64 0, .int .i64 0, .int .i64 0] 24)).heap[w.heap.size]? = some (.cells (CS fA) 24 (0, 0)) := (heap_alloc_old _ _ (by simp)).trans (heap_alloc_new w _)
  have hB : ((w.alloc (.cells #[.int .i64 2, .int .i64 0, .int .i64 1, .int .i64 0, .int .i64 0, .int .i64 0, .int .i64 0, .int .i64 0, .int .i64 0, .int .i64 0, .int .i64 0, .int .i64 0, .int .i64 0, .int .i64 0, .int .i64 0, .int .i64 0] 24)).alloc (.cells #[.int .i64 1, .int .i64 3, .int .i64 0, .int .i64 0, .int .i64 0, .int .i64 0, .int .i64 0, .int .i64 0, .int .i64 0, .int .i64 0, .int .i64 0, .int .i64 0, .int .i64 0, .int .i64 0, .int .i64 0, .int .i64 0] 24)).heap[w.heap.size + 1]? = some (.cells (CS fB) 24 (0, 0)) := heap_new_at (by simp)
  have hEQ := eq_k
  go_enter Try.func11, Try.ntmps11
  go_wp2_with (first
    | (refine wpList_load_on (by rfl) 24 (.tmp 1) rfl _ rfl 24 (CS fA) (0, 0) _ hA Try.underlying24 rfl (info24 _) ?_)
    | (refine wpList_load_on (by rfl) 24 (.tmp 2) rfl _ rfl 24 (CS fB) (0, 0) _ hB Try.underlying24 rfl (info24 _) ?_)
    | (refine wpList_load_on (by rfl) 24 (.tmp 3) rfl _ rfl 24 (CS fJ) (0, 0) _ hJ Try.underlying24 rfl (info24 _) ?_)
    | (go_at_call 7; refine (join_k _).mono ?_; rintro e w1 ⟨rfl, hb⟩; replace hA := (hb.block _ (heap_lt hA)).trans hA; replace hB := (hb.block _ (heap_lt hB)).trans hB; have hBW : Below w.heap.size w w1 := (by (repeat (first | with_reducible exact Below.refl _ _ | with_reducible apply below_alloc | with_reducible apply below_drew1 | with_reducible assumption | (with_reducible refine Keep.below (by assumption)) | (with_reducible refine bel ?_ (by assumption)) | ((with_reducible refine below_set ?_ ?_); rotate_left; (focus (first | assumption | omega | (simp; done) | (simp; omega))))))); clear hb)
    | (refine wpList_store_whole rfl 24 (.tmp 3) (.tmp 10) rfl _ (CS fJ) _ 24 rfl rfl (heap_alloc_new _ _) rfl (info24 _) (by kernel_rfl) ?_; intro w2 hJ hs2 hfar2 hbel2; replace hA := (hfar2 _ (Nat.ne_of_lt (heap_lt hA))).trans ((heap_alloc_old _ _ (heap_lt hA)).trans hA); replace hB := (hfar2 _ (Nat.ne_of_lt (heap_lt hB))).trans ((heap_alloc_old _ _ (heap_lt hB)).trans hB); replace hBW := hbel2 _ _ hBW.size (below_alloc hBW _); clear hfar2 hbel2)
    | (go_at_call 14; refine (put_k _).mono ?_; rintro e w3 ⟨⟨A, c, rfl⟩, hb⟩; replace hA := (hb.block _ (heap_lt hA)).trans hA; replace hB := (hb.block _ (heap_lt hB)).trans hB; replace hJ := (hb.block _ (heap_lt hJ)).trans hJ; replace hBW := bel hBW hb; clear hb)
    | (go_at_call 16; refine (num_any _ _).mono ?_; rintro e w1 ⟨rfl, rfl⟩)
    | (go_at_call 10; refine (compare_k _).mono ?_; rintro e w3 ⟨rfl, hb⟩; replace hA := (hb.block _ (heap_lt hA)).trans hA; replace hB := (hb.block _ (heap_lt hB)).trans hB; replace hJ := (hb.block _ (heap_lt hJ)).trans hJ; replace hBW := bel hBW hb; clear hb)
    | (go_at_call_of 9 (Value.agg (CS fA)); refine (covers_ka _).mono ?_; rintro e w3 ⟨rfl, hb⟩; replace hA := (hb.block _ (heap_lt hA)).trans hA; replace hB := (hb.block _ (heap_lt hB)).trans hB; replace hJ := (hb.block _ (heap_lt hJ)).trans hJ; replace hBW := bel hBW hb; clear hb)
    | (go_at_call_of 9 (Value.agg (CS fB)); refine (covers_kb _).mono ?_; rintro e w3 ⟨rfl, hb⟩; replace hA := (hb.block _ (heap_lt hA)).trans hA; replace hB := (hb.block _ (heap_lt hB)).trans hB; replace hJ := (hb.block _ (heap_lt hJ)).trans hJ; replace hBW := bel hBW hb; clear hb)
    | (go_at_call 13; refine (total_k _).mono ?_; rintro e w3 ⟨rfl, hb⟩; replace hA := (hb.block _ (heap_lt hA)).trans hA; replace hB := (hb.block _ (heap_lt hB)).trans hB; replace hJ := (hb.block _ (heap_lt hJ)).trans hJ; replace hBW := bel hBW hb; clear hb))
  go_ret
  exact ⟨rfl, hBW⟩
end Go.Proofs.Ytidfmpiliinmeaa
