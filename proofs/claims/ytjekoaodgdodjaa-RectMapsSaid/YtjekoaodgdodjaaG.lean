/- Plain laws of rectangles: what two have, what joins them. -/
import Derived.Test.YtjekoaodgdodjaaE
set_option linter.unusedVariables false
set_option linter.unusedSimpArgs false
namespace Go.Proofs.Ytjekoaodgdodjaa
open Go.RowKit

theorem right_iff (p : R4) : p.right = true ↔ (-4294967296 ≤ p.x ∧ p.x ≤ 4294967296 ∧ -4294967296 ≤ p.y ∧ p.y ≤ 4294967296 ∧ 0 ≤ p.w ∧ p.w ≤ 4294967296 ∧ 0 ≤ p.h ∧ p.h ≤ 4294967296) := by
  simp [R4.right, rightB, inB]
  omega
theorem empty_iff (p : R4) : p.empty = true ↔ (p.right = true → p.w ≤ 0 ∨ p.h ≤ 0) := by
  simp only [R4.empty, emptyB, R4.right]
  cases rightB p.x p.y p.w p.h <;> simp
theorem within_iff (p q : R4) : withinF p q = true ↔ (p.right = true ∧ q.right = true ∧ (p.w ≤ 0 ∨ p.h ≤ 0 ∨ (q.x ≤ p.x ∧ p.x + p.w ≤ q.x + q.w ∧ q.y ≤ p.y ∧ p.y + p.h ≤ q.y + q.h))) := by
  simp only [withinF, R4.right, emptyB, swithinB]
  cases rightB p.x p.y p.w p.h <;> cases rightB q.x q.y q.w q.h <;> simp <;> omega
theorem right_zero : R4.zero.right = true := by decide
theorem meet_right {p q : R4} (hp : p.right = true) (hq : q.right = true) : meetF p q = if min (p.x + p.w) (q.x + q.w) ≤ max p.x q.x then .zero else if min (p.y + p.h) (q.y + q.h) ≤ max p.y q.y then .zero else ⟨max p.x q.x, max p.y q.y, min (p.x + p.w) (q.x + q.w) - max p.x q.x, min (p.y + p.h) (q.y + q.h) - max p.y q.y⟩ := by
  simp [meetF, hp, hq]
theorem meet_zero {p q : R4} (hp : p.right = true) (hq : q.right = true) (h : min (p.x + p.w) (q.x + q.w) ≤ max p.x q.x ∨ min (p.y + p.h) (q.y + q.h) ≤ max p.y q.y) : meetF p q = .zero := by
  rw [meet_right hp hq]
  split
  · rfl
  · split
    · rfl
    · omega
theorem meet_some {p q : R4} (hp : p.right = true) (hq : q.right = true) (h1 : max p.x q.x < min (p.x + p.w) (q.x + q.w)) (h2 : max p.y q.y < min (p.y + p.h) (q.y + q.h)) : meetF p q = ⟨max p.x q.x, max p.y q.y, min (p.x + p.w) (q.x + q.w) - max p.x q.x, min (p.y + p.h) (q.y + q.h) - max p.y q.y⟩ := by
  rw [meet_right hp hq, if_neg (by omega), if_neg (by omega)]
theorem meet_ok {p q : R4} (hp : p.right = true) (hq : q.right = true) : (meetF p q).right = true := by
  have h1 := (right_iff p).1 hp
  have h2 := (right_iff q).1 hq
  by_cases c : max p.x q.x < min (p.x + p.w) (q.x + q.w) ∧ max p.y q.y < min (p.y + p.h) (q.y + q.h)
  · rw [meet_some hp hq c.1 c.2, right_iff]
    dsimp only
    omega
  · rw [meet_zero hp hq (by omega)]; exact right_zero
theorem meet_comm {p q : R4} (hp : p.right = true) (hq : q.right = true) : meetF p q = meetF q p := by
  rw [meet_right hp hq, meet_right hq hp, Int.max_comm q.x, Int.max_comm q.y, Int.min_comm (q.x + q.w), Int.min_comm (q.y + q.h)]
theorem within_meet_l {p q : R4} (hp : p.right = true) (hq : q.right = true) : withinF (meetF p q) p = true := by
  rw [within_iff]
  refine ⟨meet_ok hp hq, hp, ?_⟩
  by_cases c : max p.x q.x < min (p.x + p.w) (q.x + q.w) ∧ max p.y q.y < min (p.y + p.h) (q.y + q.h)
  · rw [meet_some hp hq c.1 c.2]
    dsimp only
    omega
  · rw [meet_zero hp hq (by omega)]; exact .inl (by decide)
theorem within_meet_r {p q : R4} (hp : p.right = true) (hq : q.right = true) : withinF (meetF p q) q = true := by
  rw [meet_comm hp hq]; exact within_meet_l hq hp
theorem asc (a b : Int) : a + (b - a) = b := by omega
theorem meet_assoc {p q r : R4} (hp : p.right = true) (hq : q.right = true) (hr : r.right = true) : meetF (meetF p q) r = meetF p (meetF q r) := by
  have z : ∀ s : R4, s.right = true → meetF .zero s = .zero ∧ meetF s .zero = .zero := by
    intro s hs
    have := (right_iff s).1 hs
    constructor
    · exact meet_zero right_zero hs (by simp only [R4.zero]; omega)
    · exact meet_zero hs right_zero (by simp only [R4.zero]; omega)
  by_cases c : max p.x q.x < min (p.x + p.w) (q.x + q.w) ∧ max p.y q.y < min (p.y + p.h) (q.y + q.h)
  · have m1 := meet_ok hp hq
    rw [meet_some hp hq c.1 c.2] at m1 ⊢
    by_cases d : max q.x r.x < min (q.x + q.w) (r.x + r.w) ∧ max q.y r.y < min (q.y + q.h) (r.y + r.h)
    · have m2 := meet_ok hq hr
      rw [meet_some hq hr d.1 d.2] at m2 ⊢
      rw [meet_right m1 hr, meet_right hp m2]
      dsimp only
      rw [asc, asc, asc, asc, Int.max_assoc, Int.max_assoc, Int.min_assoc, Int.min_assoc]
    · rw [meet_zero hq hr (by omega), (z p hp).2, meet_zero m1 hr (by dsimp only; rw [asc, asc]; omega)]
  · rw [meet_zero hp hq (by omega), (z r hr).1]
    by_cases d : max q.x r.x < min (q.x + q.w) (r.x + r.w) ∧ max q.y r.y < min (q.y + q.h) (r.y + r.h)
    · have m2 := meet_ok hq hr
      rw [meet_some hq hr d.1 d.2] at m2 ⊢
      rw [meet_zero hp m2 (by dsimp only; rw [asc, asc]; omega)]
    · rw [meet_zero hq hr (by omega), (z p hp).2]
theorem within_both {p q r : R4} (hp : p.right = true) (hq : q.right = true) (hr : r.right = true) (h1 : withinF r p = true) (h2 : withinF r q = true) (h3 : r.empty = false) : withinF r (meetF p q) = true := by
  have he : ¬ (r.w ≤ 0 ∨ r.h ≤ 0) := fun h => by
    have := (empty_iff r).2 (fun _ => h)
    rw [h3] at this; cases this
  rw [within_iff] at *
  refine ⟨hr, meet_ok hp hq, ?_⟩
  rw [meet_some hp hq (by omega) (by omega)]
  dsimp only
  omega
theorem within_join {p q : R4} (hp : p.right = true) (hq : q.right = true) (h : (joinF p q).2 = 0) : withinF p (joinF p q).1 = true ∧ withinF q (joinF p q).1 = true := by
  have b1 := (right_iff p).1 hp
  have b2 := (right_iff q).1 hq
  simp only [joinF, hp, hq, and_self, if_true] at h ⊢
  by_cases e1 : p.empty = true
  · rw [if_pos e1]
    have := (empty_iff p).1 e1 hp
    simp only [within_iff]
    exact ⟨⟨hp, hq, by omega⟩, hq, hq, by omega⟩
  · rw [if_neg e1] at h ⊢
    by_cases e2 : q.empty = true
    · rw [if_pos e2]
      have := (empty_iff q).1 e2 hq
      simp only [within_iff]
      exact ⟨⟨hp, hp, by omega⟩, hq, hp, by omega⟩
    · rw [if_neg e2] at h ⊢
      by_cases e3 : (hullF p q).right = true
      · rw [if_pos e3] at h ⊢
        simp only [within_iff]
        refine ⟨⟨hp, e3, ?_⟩, hq, e3, ?_⟩ <;> (simp only [hullF]; omega)
      · rw [if_neg e3] at h
        cases h
end Go.Proofs.Ytjekoaodgdodjaa
