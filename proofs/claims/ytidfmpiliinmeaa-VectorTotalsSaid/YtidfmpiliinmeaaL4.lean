/- The law VectorTotals at every input. -/
import Derived.Test.YtidfmpiliinmeaaL4a
import Derived.Test.YtidfmpiliinmeaaL4b
import Derived.Test.YtidfmpiliinmeaaL4c
import Derived.Test.YtidfmpiliinmeaaL4d
import Derived.Test.YtidfmpiliinmeaaL4e
import Derived.Test.YtidfmpiliinmeaaL3
set_option linter.unusedVariables false
set_option linter.unusedSimpArgs false
namespace Go.Proofs.Ytidfmpiliinmeaa
open Go.RowKit
theorem sumTo_add (x y : Nat → Int) : ∀ k, sumTo (mxF x y) k + sumTo (mnF x y) k = sumTo x k + sumTo y k
  | 0 => rfl
  | k + 1 => by
    have := sumTo_add x y k
    simp only [sumTo, mxF, mnF] at *
    omega
theorem right_mm {x y : Nat → Int} (hx : rightB x = true) (hy : rightB y = true) : rightB (mxF x y) = true ∧ rightB (mnF x y) = true := by
  rw [right_iff] at *
  rw [right_iff]
  constructor <;> (intro j hj; have := hx j hj; have := hy j hj; simp only [mxF, mnF]; omega)
theorem total_bd {x : Nat → Int} (h : rightB x = true) : 0 ≤ totalI x ∧ totalI x ≤ 8192 := by
  rw [totalI, if_pos h]
  have := sumTo_bd ((right_iff x).1 h) 16 (by omega)
  omega
theorem total_mm {x y : Nat → Int} (hx : rightB x = true) (hy : rightB y = true) : totalI (mxF x y) + totalI (mnF x y) = totalI x + totalI y := by
  simp only [totalI, hx, hy, (right_mm hx hy).1, (right_mm hx hy).2, if_true]
  exact sumTo_add x y 16
theorem sumTo_le {x y : Nat → Int} (h : ∀ i, i < 16 → y i ≤ x i) : ∀ k, k ≤ 16 → sumTo y k ≤ sumTo x k
  | 0, _ => Int.le_refl _
  | k + 1, hk => by
    have h1 := sumTo_le h k (by omega)
    have h2 := h k (by omega)
    simp only [sumTo]
    omega
theorem sumTo_lt {x y : Nat → Int} (h : ∀ i, i < 16 → y i ≤ x i) : ∀ k, k ≤ 16 → (∃ j, j < k ∧ y j < x j) → sumTo y k < sumTo x k
  | 0, _, ⟨j, hj, _⟩ => absurd hj (Nat.not_lt_zero j)
  | k + 1, hk, ⟨j, hj, hl⟩ => by
    have h2 := h k (by omega)
    simp only [sumTo]
    by_cases e : j = k
    · subst e
      have := sumTo_le h j (by omega)
      omega
    · have := sumTo_lt h k (by omega) ⟨j, by omega, hl⟩
      omega
theorem up_lt {x y : Nat → Int} (hx : rightB x = true) (hy : rightB y = true) (h : cmpF x y = 1) : totalI y < totalI x := by
  rw [cmpF_eq] at h
  have hne : ¬ eqV x y = true := by
    intro e
    rw [if_pos e] at h
    omega
  rw [if_neg hne] at h
  have hup : eqV (mxF x y) x = true := by
    cases e : eqV (mxF x y) x with
    | true => rfl
    | false =>
      rw [e] at h
      simp only [Bool.false_eq_true, if_false] at h
      split at h <;> omega
  rw [eqV_iff] at hup hne
  have hle : ∀ i, i < 16 → y i ≤ x i := fun i hi => by
    have := hup i hi
    simp only [mxF] at this
    omega
  have hex : ∃ j, j < 16 ∧ y j < x j := by
    false_or_by_contra
    rename_i hc
    refine hne fun i hi => ?_
    have := hle i hi
    false_or_by_contra
    exact hc ⟨i, hi, by omega⟩
  simp only [totalI, hx, hy, if_true]
  exact sumTo_lt hle 16 (by omega) hex
theorem total_no {x : Nat → Int} (h : rightB x = false) : totalI x = 0 := by
  rw [totalI, if_neg (by rw [h]; simp)]
theorem tot_any (x y : Nat → Int) (w : World) : Calls Try.prog 4 #[.agg (CS x), .agg (CS y)] w fun e w' => e = .returned (.bool true) ∧ Below w.heap.size w w' := by
  cases hx : rightB x with
  | false =>
    cases hy : rightB y with
    | false => exact tot_a x y 0 _ _ 0 0 w hx hy rfl rfl (.inl (total_no hx))
    | true => exact tot_b x y 0 _ _ 0 0 w hx hy rfl rfl (.inl (total_no hx))
  | true =>
    cases hy : rightB y with
    | false => exact tot_c x y 0 _ _ 0 0 w hx hy rfl rfl (.inr (total_no hy))
    | true =>
      have b1 := total_bd hx
      have b2 := total_bd hy
      have b3 := total_bd (right_mm hx hy).1
      have b4 := total_bd (right_mm hx hy).2
      by_cases h : cmpF x y = 1
      · exact tot_d x y _ _ _ _ _ w hx hy rfl rfl rfl rfl rfl b1.1 b1.2 b2.1 b2.2 b3.1 b3.2 b4.1 b4.2 (total_mm hx hy) (by simp [h]) (up_lt hx hy h)
      · exact tot_e x y _ _ _ _ _ w hx hy rfl rfl rfl rfl rfl b1.1 b1.2 b2.1 b2.2 b3.1 b3.2 b4.1 b4.2 (total_mm hx hy) (by simp [h])
end Go.Proofs.Ytidfmpiliinmeaa
