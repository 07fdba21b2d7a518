/- Items, rows of items; a drawn region with two effects. No condition. -/
import Derived.Test.YtndfoohdoadkfaaDrawn2
import Derived.Maps.AppendAt
import Derived.Deep.AppendLies
import Derived.Deep.MidRow
import Derived.RowKit3
set_option linter.unusedVariables false
set_option linter.unusedSimpArgs false
namespace Go.Proofs.Ytndfoohdoadkfaa
open Go.RowKit
section
variable {P : Program} {ops : Array Oper} {Q : Exit → Act → World → Prop}
theorem drawn_w2 {id : Nat} {a0 : Act} {w : World} (D : List Value) (c1 c2 : Nat) (S : Bool → Bool → World → Prop) (hm : P.follows .mixedOrders = true) (hk : phaseOk .any ops ops.size = true) (hlen : D.length = ops.size)
    (hz : (List.range D.length).all (fun j => match dstOf ops j with | some d => decide (d < a0.tmps.size) | none => true) = true) (hc1 : c1 < ops.size) (hc2 : c2 < ops.size) (h0 : S false false w.drew)
    (hstep : ∀ (i : Nat) (v : Value), D[i]? = some v → ∀ (a : Act) (W : World) (t1 t2 : Bool), (i = c1 ∨ (needs .any ops c1).contains i = true → t1 = false) → (i = c2 ∨ (needs .any ops c2).contains i = true → t2 = false) → ((needs .any ops i).contains c1 = true → t1 = true) → ((needs .any ops c2).contains c1 = true → t2 = true → t1 = true) →
      (∀ j, (needs .any ops i).contains j = true → ∀ x, D[j]? = some x → ∀ d, dstOf ops j = some d → a.tmps[d]? = some x) →
      (∀ d, (List.range D.length).all (fun j => !decide (dstOf ops j = some d)) = true → a.tmps[d]? = a0.tmps[d]?) → S t1 t2 W →
      ∃ o, ops[i]? = some o ∧ ∀ K : Act → World → Prop, (∀ W1, S (t1 || decide (i = c1)) (t2 || decide (i = c2)) W1 → K (a.put o.dst v) W1) → if Region.wanted o (yielded ops a.tmps) = true then Oper.wp P o a W K Q else K (a.put o.dst undef) W)
    (hend : ∀ (vals : Nat → Value) (W : World), (∀ i v, D[i]? = some v → vals i = v) → S true true W → wpAny P .any ops Q 0 (lst ops.size ops.size fun _ => true) (slots ops (fun _ => true) vals a0 ops.size) W) :
    (Code.region id ops true).wp P Q a0 w := by
  have hk' := hk
  simp only [phaseOk, Bool.and_eq_true, List.all_eq_true, List.mem_range, decide_eq_true_eq] at hk'
  obtain ⟨⟨hk1, hk2⟩, hk3⟩ := hk'
  have hget : ∀ (b : Nat → Bool) (vals : Nat → Value) j d, j < ops.size → b j = true → dstOf ops j = some d → (slots ops b vals a0 ops.size).tmps[d]? = some (vals j) := by
    intro b vals j d hj hb hd
    refine slots_get hb hd ?_ ops.size hj ?_
    · have := List.all_eq_true.1 hz j (List.mem_range.2 (by omega))
      simpa [hd] using this
    · intro k hk hne h
      have := hk2 k hk j hj
      simp [h, hd, hne] at this
  refine wp_region_any hm (drawn_inv hk (fun b vals W => S (b c1) (b c2) W ∧ ∀ j v, D[j]? = some v → b j = true → vals j = v) a0 w.drew ⟨h0, fun _ _ _ h => (by cases h)⟩ ?_ ?_)
  · intro i hi b vals W hbi hn hcl hI
    obtain ⟨hS, hV⟩ := hI
    have hiD : i < D.length := by omega
    have hDi : D[i]? = some D[i] := List.getElem?_eq_getElem hiD
    have no : ∀ c, c < ops.size → (i = c ∨ (needs .any ops c).contains i = true → b c = false) := by
      intro c hc h
      rcases h with rfl | h
      · exact hbi
      · cases hb : b c with
        | false => rfl
        | true =>
          have := hcl c hc hb i (by simpa using h)
          rw [hbi] at this
          cases this
    obtain ⟨o, ho, hs⟩ := hstep i D[i] hDi (slots ops b vals a0 ops.size) W (b c1) (b c2) (no c1 hc1) (no c2 hc2) (fun h => hn c1 (by simpa using h)) (fun h hb => hcl c2 hc2 hb c1 (by simpa using h))
      (fun j hj x hx d hd => by
        have hj' : j ∈ needs .any ops i := by simpa using hj
        have hjl : j < D.length := (List.getElem?_eq_some_iff.1 hx).1
        rw [hget b vals j d (by omega) (hn j hj') hd, hV j x hx (hn j hj')])
      (fun d hd => by
        refine slots_old ops.size (fun j hj h => ?_)
        have := List.all_eq_true.1 hd j (List.mem_range.2 (by omega))
        simp [h] at this) hS
    refine ⟨o, ho, fun K hK => hs K (fun W1 h1 => ?_)⟩
    have e : dstOf ops i = o.dst := by simp [dstOf, ho]
    rw [← e]
    have up : ∀ c, upB b i c = (b c || decide (i = c)) := by
      intro c
      unfold upB
      by_cases q : c = i
      · subst q
        simp
      · rw [if_neg q, decide_eq_false (fun h => q h.symm), Bool.or_false]
    refine hK D[i] W1 ⟨by rw [up, up]; exact h1, ?_⟩
    intro j v hv hbj
    by_cases q : j = i
    · subst q
      rw [hDi] at hv
      injection hv with hv
      simp [upV, hv]
    · simp only [upB, if_neg q] at hbj
      simp only [upV, if_neg q]
      exact hV j v hv hbj
  · intro b vals W hb hI
    refine hend vals W (fun i v hv => hI.2 i v hv (hb i (by have := (List.getElem?_eq_some_iff.1 hv).1; omega))) ?_
    have := hI.1
    rw [hb c1 hc1, hb c2 hc2] at this
    exact this
end
/-- An item: a stamp's time and replica, a tag. -/
structure It where
  t : Int
  r : Int
  g : Int
  deriving DecidableEq
def IS (x : It) : Array Value := #[.int .i64 x.t, .int .i64 x.r, .int .i64 x.g]
theorem info40 (x : It) : (Try.prog.info? 40).map (·.size) = some (IS x).size := by
  rw [show (IS x).size = 3 from rfl]
  kernel_rfl
theorem info40b : (Try.prog.info? 40).map (fun i => (i.zero, i.size, i.bytes)) = some (some (.agg #[.int .i64 0, .int .i64 0, .int .i64 0]), 3, 24) := by kernel_rfl
def cellsI (l : List It) : List Value := l.flatMap fun x => (IS x).toList
theorem cellsI_snoc (l : List It) (x : It) : cellsI (l ++ [x]) = cellsI l ++ (IS x).toList := by simp [cellsI]
theorem cellsI_len (l : List It) : (cellsI l).length = l.length * 3 := by
  induction l with
  | nil => rfl
  | cons x xs ih => rw [cellsI, List.flatMap_cons, List.length_append, show (List.flatMap (fun x => (IS x).toList) xs).length = xs.length * 3 from ih, show (IS x).toList.length = 3 from rfl, List.length_cons]; omega
theorem cellsI_get : ∀ (l : List It) (k j : Nat) (x : It), l[k]? = some x → j < 3 → (cellsI l)[k * 3 + j]? = (IS x).toList[j]?
  | [], k, j, x, h, _ => by simp at h
  | p :: ps, 0, j, x, h, hj => by
    simp only [List.getElem?_cons_zero, Option.some.injEq] at h
    subst h
    rw [cellsI, List.flatMap_cons, Nat.zero_mul, Nat.zero_add, List.getElem?_append_left (by simpa [IS] using hj)]
  | p :: ps, k + 1, j, x, h, hj => by
    simp only [List.getElem?_cons_succ] at h
    have ih := cellsI_get ps k j x h hj
    rw [cellsI, List.flatMap_cons, List.getElem?_append_right (by simp [IS]; omega)]
    rw [show (IS p).toList.length = 3 from rfl, show (k + 1) * 3 + j - 3 = k * 3 + j by omega]
    exact ih
theorem row_range {W : World} {base T g n cap : Nat} {l : List It} {x : It} {k : Nat} (h : W.ownsRow base T 3 (.slice (some ⟨g, 0, none⟩) n cap) n (cellsI l)) (hk : l[k]? = some x) : W.rangeAt g (k * 3) (IS x).toList := by
  intro j v hj
  have hj4 : j < 3 := by
    rcases Nat.lt_or_ge j 3 with h | h
    · exact h
    · rw [List.getElem?_eq_none (by simpa [IS] using h)] at hj
      cases hj
  have := h.cells (g := g) rfl (k * 3 + j) v (by rw [cellsI_get l k j x hk hj4]; exact hj)
  rw [Addr.add_mid] at this
  simpa using this
/-- A store of a whole item into a row. -/
theorem row_set {W : World} {base g n cap : Nat} {l : List It} {y : It} {k : Nat} (h : W.ownsRow base 40 3 (.slice (some ⟨g, 0, none⟩) n cap) n (cellsI l)) (hn : l.length = n) (hk : k < n) :
    (W.setCells g (k * 3) (IS y).toList).ownsRow base 40 3 (.slice (some ⟨g, 0, none⟩) n cap) n (cellsI (l.set k y)) := by
  refine ⟨by rw [cellsI_len, List.length_set, hn], ?_⟩
  rcases h.2 with ⟨e, _⟩ | ⟨g', cap', cur, e, hg, hh, hnc, hcm, hsz, htk⟩
  · cases e
  · injection e with e1 e2 e3
    injection e1 with e1
    injection e1 with e1
    subst e1 e3
    have hlen : (IS y).toList.length = 3 := rfl
    refine .inr ⟨g, cap, over cur (k * 3) (IS y).toList, rfl, hg, setCells_heap g _ _ W cur 40 (0, 0) hh, hnc, hcm, by rw [over_size]; exact hsz, ?_⟩
    apply List.ext_getElem?
    intro m
    rw [List.getElem?_take]
    by_cases hm : m < n * 3
    · rw [if_pos hm, Array.getElem?_toList, over_get _ _ _ _ (by rw [hlen, hsz]; omega), hlen]
      obtain ⟨q, j, rfl, hj⟩ : ∃ q j, m = q * 3 + j ∧ j < 3 := ⟨m / 3, m % 3, by omega, Nat.mod_lt _ (by omega)⟩
      have hq : q < n := by omega
      have hcur : cur[q * 3 + j]? = (cellsI l)[q * 3 + j]? := by
        rw [← htk, List.getElem?_take, if_pos hm, Array.getElem?_toList]
      by_cases hqk : q = k
      · subst hqk
        rw [if_pos (by omega), cellsI_get (l.set q y) q j y (by rw [List.getElem?_set_self (by omega)]) hj]
        congr 1
        omega
      · rw [if_neg (by omega), hcur]
        have hx : l[q]? = some l[q] := List.getElem?_eq_getElem (by omega)
        rw [cellsI_get l q j _ hx hj, cellsI_get (l.set k y) q j l[q] (by rw [List.getElem?_set_ne (fun h => hqk h.symm)]; exact hx) hj]
    · rw [if_neg hm, List.getElem?_eq_none (by rw [cellsI_len, List.length_set]; omega)]
theorem row_there {W : World} {base g n cap : Nat} {l : List It} {k : Nat} (h : W.ownsRow base 40 3 (.slice (some ⟨g, 0, none⟩) n cap) n (cellsI l)) (hk : k < n) : W.there g (k * 3) 3 := by
  rcases h.2 with ⟨e, _⟩ | ⟨g', cap', cur, e, hg, hh, hnc, hcm, hsz, htk⟩
  · cases e
  · injection e with e1 e2 e3
    injection e1 with e1
    injection e1 with e1
    subst e1 e3
    intro j hj
    refine ⟨?_, frozen_of_heap hh⟩
    rw [cell_of_heap hh (v := cur[k * 3 + j]'(by omega)) (Array.getElem?_eq_getElem (by omega))]
    rfl
end Go.Proofs.Ytndfoohdoadkfaa
