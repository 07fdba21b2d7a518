/- The document's rect.Less is the program's: plain; its contract. -/
import Derived.Test.YtjekoaodgdodjaaLS
set_option linter.unusedVariables false
set_option linter.unusedSimpArgs false
namespace Go.Proofs.Ytjekoaodgdodjaa
open Go.RowKit
open PLess
open Go.Proofs.YtjekoaodgdodjaaW.PrintWords (Kd Reps)
def toS (r : R4) : S23 := ⟨r.x, r.y, r.w, r.h⟩
theorem refE (r : R4) : dioramaref20_Empty.f r.x r.y r.w r.h = some r.empty := refEmpty _ _ _ _
theorem loop_is (a b c d : R4) : dioramaref20_Less.l0 5 [toS a, toS b, toS c, toS d] [] 0 = some (([a, b, c, d].filter fun r => !r.empty).map toS) := by
  simp only [dioramaref20_Less.l0, rd_T23, toS, wrap64]
  have ea := refE a
  have eb := refE b
  have ec := refE c
  have ed := refE d
  cases ha : a.empty <;> cases hb : b.empty <;> cases hc : c.empty <;> cases hd : d.empty <;> simp [ea, eb, ec, ed, ha, hb, hc, hd, toS]
theorem refLess (p q : R4) : dioramaref20_Less.f 5 p.x p.y p.w p.h q.x q.y q.w q.h = some ((lessF p q).map toS) := by
  unfold dioramaref20_Less.f
  simp only [refE, refMeet, Option.bind_some, lessF]
  cases he : p.empty with
  | true => simp
  | false =>
    simp only [Bool.false_eq_true, if_false]
    cases hme : (meetF p q).empty with
    | true => simp [toS]
    | false =>
      have hp : p.right = true := by
        cases h : p.right with
        | true => rfl
        | false =>
          have : p.empty = true := by rw [empty_iff]; intro h'; rw [h] at h'; cases h'
          rw [he] at this
          cases this
      have hm : (meetF p q).right = true := by
        cases h : (meetF p q).right with
        | true => rfl
        | false =>
          have : (meetF p q).empty = true := by rw [empty_iff]; intro h'; rw [h] at h'; cases h'
          rw [hme] at this
          cases this
      obtain ⟨m, hmm⟩ : ∃ m, m = meetF p q := ⟨_, rfl⟩
      rw [← hmm] at hm ⊢
      have b := right_bd hp
      have b' := right_bd hm
      simp only [Bool.false_eq_true, if_false, dioramaref20_edges.f, Option.bind_some]
      rw [w_in (n := p.x + p.w) (by omega) (by omega), w_in (n := p.y + p.h) (by omega) (by omega), w_in (n := m.x + m.w) (by omega) (by omega), w_in (n := m.y + m.h) (by omega) (by omega)]
      rw [w_in (n := p.x + p.w - p.x) (by omega) (by omega), w_in (n := m.y - p.y) (by omega) (by omega), w_in (n := p.y + p.h - (m.y + m.h)) (by omega) (by omega), w_in (n := m.x - p.x) (by omega) (by omega), w_in (n := m.y + m.h - m.y) (by omega) (by omega), w_in (n := p.x + p.w - (m.x + m.w)) (by omega) (by omega)]
      rw [show p.x + p.w - p.x = p.w by omega, show m.y + m.h - m.y = m.h by omega]
      exact loop_is ⟨p.x, p.y, p.w, m.y - p.y⟩ ⟨p.x, m.y + m.h, p.w, p.y + p.h - (m.y + m.h)⟩ ⟨p.x, m.y, m.x - p.x, m.h⟩ ⟨m.x + m.w, m.y, p.x + p.w - (m.x + m.w), m.h⟩
theorem reps_cells {α : Type} {enc : α → List Value} (h4 : ∀ x, (enc x).length = 4) : ∀ (ps : List α) (cs : List Value), cs.length = ps.length * 4 → (∀ j p, ps[j]? = some p → (cs.drop (j * 4)).take 4 = enc p) → cs = ps.flatMap enc
  | [], cs, hl, _ => by simpa using hl
  | p :: ps, cs, hl, h => by
    have h0 := h 0 p rfl
    simp only [Nat.zero_mul, List.drop_zero] at h0
    have ih := reps_cells h4 ps (cs.drop 4) (by rw [List.length_drop, hl, List.length_cons]; omega) (fun j q hj => by
      have := h (j + 1) q (by simpa using hj)
      rw [List.drop_drop]
      rw [show 4 + j * 4 = (j + 1) * 4 by omega]
      exact this)
    rw [List.flatMap_cons, ← h0, ← ih, List.take_append_drop]
def LessPostD (w : World) (l : List R4) (e : Ending) (w' : World) : Prop := ∃ v, e = .returned v ∧ w'.ownsRow w.heap.size 23 4 v l.length (cellsR l) ∧ Below w.heap.size w w'
theorem lessD (p q : R4) (w : World) : Calls Try.prog 26 #[.agg (RS p), .agg (RS q)] w (LessPostD w (lessF p q)) :=
  (dioramaref20_Less.calls 5 _ _ _ _ _ _ _ _ _ w (refLess p q)).mono fun e w' ⟨v, he, hR, hb⟩ => by
    refine ⟨v, he, ?_, hb⟩
    obtain ⟨_, inner, ho, hl, hr⟩ := hR
    have hs : k23.sz = 4 := rfl
    rw [hs] at hl ho hr
    have e1 : inner = ((lessF p q).map toS).flatMap fun x => [.int .i64 x.f0, .int .i64 x.f1, .int .i64 x.f2, .int .i64 x.f3] := reps_cells (fun _ => rfl) _ _ hl (fun j p' hj => k23_openM (hr j p' hj))
    have e2 : inner = cellsR (lessF p q) := by rw [e1, List.flatMap_map]; rfl
    rw [e2, List.length_map] at ho
    exact ho
theorem cellsR_get : ∀ (l : List R4) (k j : Nat) (r : R4), l[k]? = some r → j < 4 → (cellsR l)[k * 4 + j]? = (RS r).toList[j]?
  | [], k, j, r, h, _ => by simp at h
  | p :: ps, 0, j, r, h, hj => by
    simp only [List.getElem?_cons_zero, Option.some.injEq] at h
    subst h
    rw [cellsR, List.flatMap_cons, Nat.zero_mul, Nat.zero_add, List.getElem?_append_left (by simpa [RS] using hj)]
  | p :: ps, k + 1, j, r, h, hj => by
    simp only [List.getElem?_cons_succ] at h
    have ih := cellsR_get ps k j r h hj
    rw [cellsR, List.flatMap_cons, List.getElem?_append_right (by simp [RS]; omega)]
    rw [show (RS p).toList.length = 4 from rfl, show (k + 1) * 4 + j - 4 = k * 4 + j by omega]
    exact ih
theorem row_range {W : World} {base T g n cap : Nat} {l : List R4} {r : R4} {k : Nat} (h : W.ownsRow base T 4 (.slice (some ⟨g, 0, none⟩) n cap) n (cellsR l)) (hk : l[k]? = some r) : W.rangeAt g (k * 4) (RS r).toList := by
  intro j v hj
  have hj4 : j < 4 := by
    rcases Nat.lt_or_ge j 4 with h | h
    · exact h
    · rw [List.getElem?_eq_none (by simpa [RS] using h)] at hj
      cases hj
  have := h.cells (g := g) rfl (k * 4 + j) v (by rw [cellsR_get l k j r hk hj4]; exact hj)
  rw [Addr.add_mid] at this
  simpa using this
def All (W : World) (l : List (Nat × Nat × R4)) : Prop := ∀ x ∈ l, W.heap[x.1]? = some (.cells (RS x.2.2) x.2.1 (0, 0))
theorem All.below {W w1 : World} {l : List (Nat × Nat × R4)} (h : All W l) (hb : Below W.heap.size W w1) : All w1 l := fun x hx => (hb.block _ (heap_lt (h x hx))).trans (h x hx)
theorem All.store {W w1 : World} {l : List (Nat × Nat × R4)} (h : All W l) {o : Obj} {T : Nat} {r : R4} (hs : w1.heap[W.heap.size]? = some (.cells (RS r) T (0, 0))) (far : ∀ k, k ≠ W.heap.size → w1.heap[k]? = (W.alloc o).heap[k]?) : All w1 ((W.heap.size, T, r) :: l) := by
  intro x hx
  rcases List.mem_cons.1 hx with rfl | hx
  · exact hs
  · exact (far _ (Nat.ne_of_lt (heap_lt (h x hx)))).trans ((heap_alloc_old _ _ (heap_lt (h x hx))).trans (h x hx))
end Go.Proofs.Ytjekoaodgdodjaa
