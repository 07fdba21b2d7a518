/- What Merge's plain function answers. No condition. -/
import Derived.Test.YtndfoohdoadkfaaQZ
import Derived.Test.YtndfoohdoadkfaaQX
set_option linter.unusedVariables false
set_option linter.unusedSimpArgs false
namespace Go.Proofs.Ytndfoohdoadkfaa
def lt (a b : St) : Prop := cmpS (toI a) (toI b) < 0
theorem lt_iff (a b : St) : lt a b ↔ (a.t < b.t ∨ (a.t = b.t ∧ a.r < b.r)) := cmp_lt a b
def leT (a : St) (x : It) : Prop := a.t < x.t ∨ (a.t = x.t ∧ a.r ≤ x.r)
theorem lt_of_leT {a b : St} {x : It} (h : lt a b) (k : leT b x) : leT a x := by
  rw [lt_iff] at h
  unfold leT at *
  omega
theorem st_eq {a b : St} (h1 : a.t = b.t) (h2 : a.r = b.r) : a = b := by
  cases a
  cases b
  simp_all
theorem mem_of_count {xs ys : List It} (h : ∀ x, xs.count x = ys.count x) (x : It) : x ∈ xs ↔ x ∈ ys := by
  rw [← List.count_pos_iff, ← List.count_pos_iff, h x]
theorem pop_mem {xs : List It} (h : 0 < xs.length) (y : It) : y ∈ xs ↔ y = at_ xs 0 ∨ y ∈ popL xs := by
  have := pop_count h y
  rw [← List.count_pos_iff, ← List.count_pos_iff]
  by_cases q : at_ xs 0 = y
  · rw [if_pos q] at this
    constructor
    · intro _
      exact .inl q.symm
    · intro _
      omega
  · rw [if_neg q] at this
    constructor
    · intro _
      exact .inr (by omega)
    · rintro (e | _)
      · exact absurd e.symm q
      · omega
theorem mg_law : ∀ (f : Nat) (xs : List It) (out : List St), xs.length = f → Heap xs → out.Pairwise lt → (∀ o ∈ out, ∀ x ∈ xs, leT o x) → (mgL f xs out).Pairwise lt ∧ ∀ s, s ∈ mgL f xs out ↔ (s ∈ out ∨ ∃ x ∈ xs, stOf x = s)
  | 0, xs, out, hl, hh, hp, ho => by
    have : xs = [] := List.eq_nil_of_length_eq_zero hl
    subst this
    exact ⟨hp, fun s => by simp [mgL]⟩
  | f + 1, xs, out, hl, hh, hp, ho => by
    have h0 : 0 < xs.length := by omega
    have hm := pop_mem h0
    have hx : at_ xs 0 ∈ xs := (hm _).2 (.inl rfl)
    have hroot := root_mem hh
    have hpl : (popL xs).length = f := by rw [popL_len]; omega
    have hph := pop_heap hh
    rw [mgL]
    by_cases q : out.getLast? = some (stOf (at_ xs 0))
    · rw [if_pos q]
      obtain ⟨h1, h2⟩ := mg_law f (popL xs) out hpl hph hp (fun o h x hx => ho o h x ((hm x).2 (.inr hx)))
      refine ⟨h1, fun s => ?_⟩
      rw [h2 s]
      have hin : stOf (at_ xs 0) ∈ out := List.mem_of_getLast? q
      constructor
      · rintro (h | ⟨x, hx, rfl⟩)
        · exact .inl h
        · exact .inr ⟨x, (hm x).2 (.inr hx), rfl⟩
      · rintro (h | ⟨x, hx, rfl⟩)
        · exact .inl h
        · rcases (hm x).1 hx with rfl | hx
          · exact .inl hin
          · exact .inr ⟨x, hx, rfl⟩
    · rw [if_neg q]
      have hlt : ∀ o ∈ out, lt o (stOf (at_ xs 0)) := by
        intro o h
        have hle := ho o h _ hx
        rw [lt_iff]
        unfold leT at hle
        simp only [stOf]
        by_cases e : o = stOf (at_ xs 0)
        · exfalso
          obtain ⟨y, hy⟩ : ∃ y, out.getLast? = some y := by
            cases hg : out.getLast? with
            | none =>
              rw [List.getLast?_eq_none_iff] at hg
              subst hg
              cases h
            | some y => exact ⟨y, rfl⟩
          have hy2 := ho y (List.mem_of_getLast? hy) _ hx
          have hne : y ≠ stOf (at_ xs 0) := fun e => q (by rw [hy, e])
          have hoy : o = y ∨ lt o y := by
            obtain ⟨i, hi, rfl⟩ := List.getElem_of_mem h
            rw [List.getLast?_eq_getElem?] at hy
            obtain ⟨hj, rfl⟩ := List.getElem?_eq_some_iff.1 hy
            by_cases q2 : i = out.length - 1
            · subst q2
              exact .inl rfl
            · exact .inr (List.pairwise_iff_getElem.1 hp i (out.length - 1) hi hj (by omega))
          rcases hoy with rfl | hoy
          · exact hne e
          · rw [lt_iff, e] at hoy
            unfold leT at hy2
            simp only [stOf] at hoy
            omega
        · by_cases e1 : o.t = (at_ xs 0).t
          · by_cases e2 : o.r = (at_ xs 0).r
            · exact absurd (st_eq e1 e2) e
            · omega
          · omega
      have hp2 : (out ++ [stOf (at_ xs 0)]).Pairwise lt := by
        rw [List.pairwise_append]
        refine ⟨hp, List.pairwise_singleton _ _, fun a ha b hb => ?_⟩
        rw [List.mem_singleton] at hb
        subst hb
        exact hlt a ha
      obtain ⟨h1, h2⟩ := mg_law f (popL xs) (out ++ [stOf (at_ xs 0)]) hpl hph hp2 (fun o h x hx => by
        rcases List.mem_append.1 h with h | h
        · exact ho o h x ((hm x).2 (.inr hx))
        · rw [List.mem_singleton] at h
          subst h
          have := hroot x ((hm x).2 (.inr hx))
          rw [le_iff] at this
          unfold leT
          simp only [stOf]
          omega)
      refine ⟨h1, fun s => ?_⟩
      rw [h2 s]
      constructor
      · rintro (h | ⟨x, hx, rfl⟩)
        · rcases List.mem_append.1 h with h | h
          · exact .inl h
          · rw [List.mem_singleton] at h
            exact .inr ⟨_, hx, h.symm⟩
        · exact .inr ⟨x, (hm x).2 (.inr hx), rfl⟩
      · rintro (h | ⟨x, hx, rfl⟩)
        · exact .inl (List.mem_append.2 (.inl h))
        · rcases (hm x).1 hx with rfl | hx
          · exact .inl (List.mem_append.2 (.inr (List.mem_singleton.2 rfl)))
          · exact .inr ⟨x, hx, rfl⟩
theorem merge_law (ls : List (List St)) : (mergeL ls).Pairwise lt ∧ ∀ s, s ∈ mergeL ls ↔ s ∈ ls.flatten := by
  unfold mergeL
  obtain ⟨h1, h2⟩ := mg_law ls.flatten.length (initL ((ls.flatten.map toI).length / 2) (ls.flatten.map toI)) [] (by rw [initL_len, List.length_map]) (init_heap _) List.Pairwise.nil (fun o h => by cases h)
  refine ⟨h1, fun s => ?_⟩
  rw [h2 s]
  have hm := mem_of_count (init_count ((ls.flatten.map toI).length / 2) (ls.flatten.map toI))
  constructor
  · rintro (h | ⟨x, hx, rfl⟩)
    · cases h
    · obtain ⟨s, hs, rfl⟩ := List.mem_map.1 ((hm x).1 hx)
      exact hs
  · intro h
    exact .inr ⟨toI s, (hm _).2 (List.mem_map.2 ⟨s, h, rfl⟩), rfl⟩
theorem lt_irr (a : St) : ¬ lt a a := by rw [lt_iff]; omega
theorem pair_ext : ∀ {a b : List St}, a.Pairwise lt → b.Pairwise lt → (∀ s, s ∈ a ↔ s ∈ b) → a = b
  | [], [], _, _, _ => rfl
  | [], y :: b, _, _, h => absurd ((h y).2 (List.mem_cons_self ..)) (by simp)
  | x :: a, [], _, _, h => absurd ((h x).1 (List.mem_cons_self ..)) (by simp)
  | x :: a, y :: b, ha, hb, h => by
    rw [List.pairwise_cons] at ha hb
    have hxy : x = y := by
      rcases List.mem_cons.1 ((h x).1 (List.mem_cons_self ..)) with e | e
      · exact e
      · rcases List.mem_cons.1 ((h y).2 (List.mem_cons_self ..)) with e' | e'
        · exact e'.symm
        · have h1 := hb.1 x e
          have h2 := ha.1 y e'
          rw [lt_iff] at h1 h2
          omega
    subst hxy
    rw [pair_ext ha.2 hb.2 (fun s => by
      constructor
      · intro hs
        rcases List.mem_cons.1 ((h s).1 (List.mem_cons_of_mem _ hs)) with e | e
        · subst e
          exact absurd (ha.1 s hs) (lt_irr s)
        · exact e
      · intro hs
        rcases List.mem_cons.1 ((h s).2 (List.mem_cons_of_mem _ hs)) with e | e
        · subst e
          exact absurd (hb.1 s hs) (lt_irr s)
        · exact e)]
theorem rise_of_pair {l : List St} (h : l.Pairwise lt) : Rise l := by
  intro k a b ha hb
  obtain ⟨h1, rfl⟩ := List.getElem?_eq_some_iff.1 ha
  obtain ⟨h2, rfl⟩ := List.getElem?_eq_some_iff.1 hb
  exact List.pairwise_iff_getElem.1 h k (k + 1) h1 h2 (by omega)
theorem pair_of_rise {l : List St} (h : Rise l) : l.Pairwise lt :=
  List.pairwise_iff_getElem.2 fun i j hi hj hij => rise_lt' h hij (List.getElem?_eq_getElem hi) (List.getElem?_eq_getElem hj)
theorem merge_rise (ls : List (List St)) : Rise (mergeL ls) := rise_of_pair (merge_law ls).1
theorem merge_ext {ls ms : List (List St)} (h : ∀ s, s ∈ ls.flatten ↔ s ∈ ms.flatten) : mergeL ls = mergeL ms :=
  pair_ext (merge_law ls).1 (merge_law ms).1 (fun s => by rw [(merge_law ls).2, (merge_law ms).2, h])
/-- A stamp that is in a rising row is found. -/
theorem found {l : List St} (hr : Rise l) {s : St} (h : s ∈ l) : fnd l s = true ∧ l[plc l s]? = some s := by
  obtain ⟨i, hi, rfl⟩ := List.getElem_of_mem h
  have hp : plc l l[i] = i := plc_is l l[i] i (by omega) (fun k a hk ha => rise_lt' hr hk ha (List.getElem?_eq_getElem hi)) (fun a ha => by
    rw [List.getElem?_eq_getElem hi] at ha
    injection ha with ha
    subst ha
    exact lt_irr _)
  have : l[plc l l[i]]? = some l[i] := by rw [hp, List.getElem?_eq_getElem hi]
  exact ⟨decide_eq_true this, this⟩
theorem merge_len (ls : List (List St)) : (mergeL ls).length ≤ ls.flatten.length := by
  suffices h : ∀ (f : Nat) (xs : List It) (out : List St), (mgL f xs out).length ≤ f + out.length by
    have := h ls.flatten.length (initL ((ls.flatten.map toI).length / 2) (ls.flatten.map toI)) []
    simpa [mergeL] using this
  intro f
  induction f with
  | zero => intro xs out; simp [mgL]
  | succ f ih =>
    intro xs out
    rw [mgL]
    refine Nat.le_trans (ih _ _) ?_
    split
    · omega
    · simp
      omega
end Go.Proofs.Ytndfoohdoadkfaa
