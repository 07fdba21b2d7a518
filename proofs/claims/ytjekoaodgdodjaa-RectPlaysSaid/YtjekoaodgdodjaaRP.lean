/- The document's rectangles are the program's: plain. -/
import Derived.Test.YtjekoaodgdodjaaG
import Derived.Test.YtjekoaodgdodjaaIH
import Derived.Test.YtjekoaodgdodjaaPLessx2
set_option linter.unusedVariables false
set_option linter.unusedSimpArgs false
namespace Go.Proofs.Ytjekoaodgdodjaa
open Go.RowKit
open Go.Proofs.YtjekoaodgdodjaaW.PrintWords (mx mn)
open PLess
theorem w_neg : wrap64 (-4294967296) = -4294967296 := by unfold wrap64; omega
theorem refIn (n : Int) : dioramaref20_in.f n 4294967296 = some (inB n 4294967296) := by
  unfold dioramaref20_in.f inB
  rw [w_neg]
  by_cases h : n ≥ -4294967296
  · rw [if_pos h]; simp [show -4294967296 ≤ n from h]
  · rw [if_neg h]; simp [show ¬ -4294967296 ≤ n from h]
theorem some_bool {a b : Bool} (h : a = b) : some a = some b := by rw [h]
theorem refRight (x y u v : Int) : dioramaref20_Right.f x y u v = some (rightB x y u v) := by
  unfold dioramaref20_Right.f rightB
  simp only [refIn, Option.bind_some]
  cases inB x 4294967296 <;> cases inB y 4294967296 <;> simp only [Bool.false_eq_true, if_false, if_true, Bool.false_and, Bool.true_and]
  by_cases h1 : u ≥ 0
  · rw [if_pos h1]
    by_cases h2 : u ≤ 4294967296
    · rw [if_pos h2]
      by_cases h3 : v ≥ 0
      · rw [if_pos h3]; simp [show 0 ≤ u from h1, h2, show 0 ≤ v from h3]
      · rw [if_neg h3]; simp [show ¬ 0 ≤ v from h3]
    · rw [if_neg h2]; simp [h2]
  · rw [if_neg h1]; simp [show ¬ 0 ≤ u from h1]
theorem refEmpty (x y u v : Int) : dioramaref20_Empty.f x y u v = some (emptyB x y u v) := by
  unfold dioramaref20_Empty.f
  simp only [refRight, Option.bind_some]
  cases h : rightB x y u v with
  | false => simp [emptyB, h]
  | true =>
    have hb := right_bd h
    simp only [if_true]
    by_cases h1 : u = 0
    · rw [if_pos h1]; simp [emptyB, h, h1]
    · rw [if_neg h1]
      refine some_bool ?_
      rw [Bool.eq_iff_iff]
      simp [emptyB, h]
      omega
theorem w_in {n : Int} (h1 : -9223372036854775808 ≤ n) (h2 : n ≤ 9223372036854775807) : wrap64 n = n := by unfold wrap64; omega
theorem mx_max (a b : Int) : mx a b = max a b := by unfold mx; omega
theorem mn_min (a b : Int) : mn a b = min a b := by unfold mn; omega
/-- A rectangle's four numbers. -/
abbrev R4.t (r : R4) : Int × Int × Int × Int := (r.x, r.y, r.w, r.h)
theorem refMeet (k : Nat) (p q : R4) : dioramaref20_Meet.f (k + 1) p.x p.y p.w p.h q.x q.y q.w q.h = some (meetF p q).t := by
  unfold dioramaref20_Meet.f
  simp only [refRight, Option.bind_some]
  cases h : rightB p.x p.y p.w p.h with
  | false => simp [dioramaref20_Meet.j0, meetF, R4.right, h, R4.zero]
  | true =>
    cases h' : rightB q.x q.y q.w q.h with
    | false => simp [dioramaref20_Meet.j0, meetF, R4.right, h', R4.zero]
    | true =>
      have hb := right_bd h
      have hb' := right_bd h'
      have hp : p.right = true := h
      have hq : q.right = true := h'
      simp only [if_true, Bool.not_true, dioramaref20_Meet.j0, dioramaref20_edges.f, Option.bind_some, Bool.false_eq_true, if_false, mx_max, mn_min]
      rw [w_in (n := p.x + p.w) (by omega) (by omega), w_in (n := q.x + q.w) (by omega) (by omega), w_in (n := p.y + p.h) (by omega) (by omega), w_in (n := q.y + q.h) (by omega) (by omega)]
      rw [w_in (n := min (p.x + p.w) (q.x + q.w) - max p.x q.x) (by omega) (by omega), w_in (n := min (p.y + p.h) (q.y + q.h) - max p.y q.y) (by omega) (by omega)]
      by_cases a : min (p.x + p.w) (q.x + q.w) - max p.x q.x ≤ 0
      · rw [if_pos a, meet_zero hp hq (.inl (by omega))]; rfl
      · rw [if_neg a]
        by_cases b : min (p.y + p.h) (q.y + q.h) - max p.y q.y ≤ 0
        · rw [if_pos b, meet_zero hp hq (.inr (by omega))]; rfl
        · rw [if_neg b, meet_some hp hq (by omega) (by omega)]
end Go.Proofs.Ytjekoaodgdodjaa
