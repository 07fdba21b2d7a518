/- The law VectorLattice at every input. -/
import Derived.Test.YtidfmpiliinmeaaL3a
import Derived.Test.YtidfmpiliinmeaaL3b
import Derived.Test.YtidfmpiliinmeaaL3c
set_option linter.unusedVariables false
set_option linter.unusedSimpArgs false
namespace Go.Proofs.Ytidfmpiliinmeaa
open Go.RowKit
theorem eqV_of {a b : Nat → Int} (h : ∀ i, i < 16 → a i = b i) : eqV a b = true := (eqV_iff a b).2 h
theorem same_mm (x y : Nat → Int) : eqV (mxF x y) (mnF x y) = eqV x y := by
  rw [Bool.eq_iff_iff, eqV_iff, eqV_iff]
  constructor <;> intro h i hi <;> have := h i hi <;> simp only [mxF, mnF] at this ⊢ <;> omega
theorem same_c2 (x y : Nat → Int) : eqV (mxF x y) y = eqV (mxF y x) y := by
  rw [Bool.eq_iff_iff, eqV_iff, eqV_iff]
  constructor <;> intro h i hi <;> have := h i hi <;> simp only [mxF] at this ⊢ <;> omega
theorem cmpF_eq (x y : Nat → Int) : cmpF x y = if eqV x y = true then 0 else if eqV (mxF x y) x = true then 1 else if eqV (mxF y x) y = true then -1 else 2 := by
  unfold cmpF
  rw [same_mm, same_c2]
theorem eq_up (x y : Nat → Int) (h : eqV x y = true) : eqV (mxF x y) x = true ∧ eqV (mxF y x) y = true := by
  rw [eqV_iff] at h
  constructor <;> (rw [eqV_iff]; intro i hi; have := h i hi; simp only [mxF]; omega)
theorem eq_both (x y : Nat → Int) (h1 : eqV (mxF x y) x = true) (h2 : eqV (mxF y x) y = true) : eqV x y = true := by
  rw [eqV_iff] at h1 h2 ⊢
  intro i hi
  have := h1 i hi
  have := h2 i hi
  simp only [mxF] at *
  omega
theorem lat_any (x y z : Nat → Int) (w : World) : Calls Try.prog 3 #[.agg (CS x), .agg (CS y), .agg (CS z)] w fun e w' => e = .returned (.bool true) ∧ Below w.heap.size w w' := by
  have E1 : eqV (mxF x y) (mxF y x) = true := eqV_of fun i _ => by simp only [mxF]; omega
  have E2 : eqV (mnF x y) (mnF y x) = true := eqV_of fun i _ => by simp only [mnF]; omega
  have E3 : eqV (mxF x (mxF y z)) (mxF (mxF x y) z) = true := eqV_of fun i _ => by simp only [mxF]; omega
  have E4 : eqV (mnF x (mnF y z)) (mnF (mnF x y) z) = true := eqV_of fun i _ => by simp only [mnF]; omega
  have E5 : eqV (mxF x (mnF x y)) x = true := eqV_of fun i _ => by simp only [mxF, mnF]; omega
  have E6 : eqV (mnF x (mxF x y)) x = true := eqV_of fun i _ => by simp only [mxF, mnF]; omega
  have F := cmpF_eq x y
  have G := eq_up x y
  have B := eq_both x y
  cases h1 : eqV (mxF x y) x with
  | true =>
    refine lat_a x y z _ _ w E1 E2 E3 E4 E5 E6 h1 rfl rfl ?_ ?_ <;> rw [F] <;> cases h : eqV x y <;> simp [h1]
  | false =>
    have hs : eqV x y = false := by
      cases h : eqV x y with
      | false => rfl
      | true => rw [(G h).1] at h1; cases h1
    cases h2 : eqV (mxF y x) y with
    | true => refine lat_b x y z _ w E1 E2 E3 E4 E5 E6 h1 h2 rfl ?_ ?_ <;> rw [F] <;> simp [h1, h2, hs]
    | false => refine lat_c x y z _ w E1 E2 E3 E4 E5 E6 h1 h2 rfl ?_ ?_ <;> rw [F] <;> simp [h1, h2, hs]
end Go.Proofs.Ytidfmpiliinmeaa
