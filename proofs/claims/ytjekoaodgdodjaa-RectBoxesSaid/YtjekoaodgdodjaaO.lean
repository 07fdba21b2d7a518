/- The law RectBoxes at every input. -/
import Derived.Test.YtjekoaodgdodjaaN
set_option linter.unusedVariables false
namespace Go.Proofs.Ytjekoaodgdodjaa
open Go.RowKit
theorem box_right {m : M6} {r : R4} (hb : (boxF m r).2 = 0) : (boxF m r).1.right = true := by
  unfold boxF at hb ⊢
  by_cases c : m.fine = true ∧ r.right = true
  · rw [if_pos c] at hb ⊢
    by_cases g : (boxR m r).right = true
    · rw [if_pos g]
      exact g
    · rw [if_neg g]
      rfl
  · rw [if_neg c]
    rfl
theorem boxes_any (a b c d e f x y u v s t : Int) (w : World) :
    Calls Try.prog 4 #[.agg #[.int .i64 a, .int .i64 b, .int .i64 c, .int .i64 d, .int .i64 e, .int .i64 f], .agg #[.int .i64 x, .int .i64 y, .int .i64 u, .int .i64 v], .int .i64 s, .int .i64 t] w fun r w' =>
      r = .returned (.bool true) ∧ Below w.heap.size w w' := by
  rcases hA : thenF ⟨a, b, c, d, e, f⟩ .one with ⟨⟨k1, k2, k3, k4, k5, k6⟩, ke⟩
  rcases hB : thenF .one ⟨a, b, c, d, e, f⟩ with ⟨⟨l1, l2, l3, l4, l5, l6⟩, le⟩
  rcases hP : pointF ⟨a, b, c, d, e, f⟩ s t with ⟨pu, pv, pe⟩
  rcases hX : boxF ⟨a, b, c, d, e, f⟩ ⟨x, y, u, v⟩ with ⟨⟨jx, jy, jw, jh⟩, je⟩
  refine boxes_walk a b c d e f x y u v s t k1 k2 k3 k4 k5 k6 ke l1 l2 l3 l4 l5 l6 le pu pv pe jx jy jw jh je w (fun r => box_one (r := ⟨x, y, u, v⟩) r) hA hB (fun hf => ?_) hP hX (fun hh hp hj => ?_)
  · obtain ⟨p1, p2⟩ := then_one (m := ⟨a, b, c, d, e, f⟩) hf
    have q1 := hA.symm.trans p1
    have q2 := hB.symm.trans p2
    simp only [Prod.mk.injEq, M6.mk.injEq] at q1 q2
    obtain ⟨⟨r1, r2, r3, r4, r5, r6⟩, r7⟩ := q1
    obtain ⟨⟨t1, t2, t3, t4, t5, t6⟩, t7⟩ := q2
    exact ⟨r7, t7, r1, r2, r3, r4, r5, r6, t1, t2, t3, t4, t5, t6⟩
  · have := in_box (m := ⟨a, b, c, d, e, f⟩) (r := ⟨x, y, u, v⟩) (x := s) (y := t) hh (by rw [hP]; exact hp) (by rw [hX]; exact hj)
    have h2 := box_right (m := ⟨a, b, c, d, e, f⟩) (r := ⟨x, y, u, v⟩) (by rw [hX]; exact hj)
    rw [hX] at h2
    rw [hP, hX] at this
    exact ⟨this, h2⟩
end Go.Proofs.Ytjekoaodgdodjaa
