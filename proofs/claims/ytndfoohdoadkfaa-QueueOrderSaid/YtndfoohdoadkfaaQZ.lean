/- The heap's plain law. No condition. -/
import Derived.Test.YtndfoohdoadkfaaQL
set_option linter.unusedVariables false
set_option linter.unusedSimpArgs false
namespace Go.Proofs.Ytndfoohdoadkfaa
theorem bef_iff (a b : It) : befB a b = true ↔ (a.t < b.t ∨ (a.t = b.t ∧ (a.r < b.r ∨ (a.r = b.r ∧ a.g < b.g)))) := by
  unfold befB cmpS
  by_cases h1 : a.t = b.t <;> by_cases h2 : a.r = b.r <;> by_cases h3 : a.t < b.t <;> by_cases h4 : a.r < b.r <;> simp [h1, h2, h3, h4] <;> omega
def le (a b : It) : Prop := befB b a = false
theorem le_iff (a b : It) : le a b ↔ (a.t < b.t ∨ (a.t = b.t ∧ (a.r < b.r ∨ (a.r = b.r ∧ a.g ≤ b.g)))) := by
  have h := bef_iff b a
  unfold le
  cases hb : befB b a with
  | true =>
    rw [hb] at h
    have := h.1 rfl
    constructor
    · intro e
      cases e
    · omega
  | false =>
    rw [hb] at h
    have h' : ¬ (b.t < a.t ∨ b.t = a.t ∧ (b.r < a.r ∨ b.r = a.r ∧ b.g < a.g)) := fun q => by cases h.2 q
    constructor
    · intro _
      omega
    · intro _
      rfl
theorem le_refl (a : It) : le a a := by rw [le_iff]; omega
theorem le_trans {a b c : It} (h : le a b) (k : le b c) : le a c := by rw [le_iff] at *; omega
theorem le_anti {a b : It} (h : le a b) (k : le b a) : a = b := by
  rw [le_iff] at *
  obtain ⟨t, r, g⟩ := a
  obtain ⟨t', r', g'⟩ := b
  simp only at h k
  obtain rfl : t = t' := by omega
  obtain rfl : r = r' := by omega
  obtain rfl : g = g' := by omega
  rfl
theorem le_of_bef {a b : It} (h : befB a b = true) : le a b := by rw [bef_iff] at h; rw [le_iff]; omega
theorem le_of_not {a b : It} (h : ¬ befB a b = true) : le b a := by simpa [le] using h
theorem at_set {xs : List It} {i : Nat} {x : It} (k : Nat) (hi : i < xs.length) : at_ (xs.set i x) k = if k = i then x else at_ xs k := by
  unfold at_
  rw [List.getD_eq_getElem?_getD, List.getD_eq_getElem?_getD, List.getElem?_set]
  by_cases h : k = i
  · subst h
    simp [hi]
  · rw [if_neg (fun e => h e.symm), if_neg h]
theorem at_swap {xs : List It} {i k : Nat} (hi : i < xs.length) (hk : k < xs.length) (m : Nat) : at_ (swapN xs i k) m = if m = k then at_ xs i else if m = i then at_ xs k else at_ xs m := by
  unfold swapN
  rw [at_set m (by simpa using hk), at_set m hi]
theorem count_swap {xs : List It} {i k : Nat} (hi : i < xs.length) (hk : k < xs.length) (x : It) : (swapN xs i k).count x = xs.count x := by
  unfold swapN
  rw [List.count_set (by simpa using hk), List.count_set hi]
  have e1 : at_ xs i = xs[i] := by simp [at_, List.getD_eq_getElem?_getD, hi]
  have e2 : at_ xs k = xs[k] := by simp [at_, List.getD_eq_getElem?_getD, hk]
  rw [List.getElem_set, e1, e2]
  have c1 : xs[i] = x → 0 < xs.count x := fun e => List.count_pos_iff.2 (e ▸ List.getElem_mem hi)
  have c2 : xs[k] = x → 0 < xs.count x := fun e => List.count_pos_iff.2 (e ▸ List.getElem_mem hk)
  by_cases q : i = k
  · subst q
    simp only [if_true]
    by_cases h : xs[i] = x
    · simp [h]
      have := c1 h
      omega
    · simp [h]
  · simp only [if_neg q]
    by_cases h : xs[i] = x <;> by_cases h' : xs[k] = x <;> simp [h, h']
    · have := c1 h
      omega
    · have := c1 h
      omega
theorem up_count : ∀ (f : Nat) (xs : List It) (j : Nat) (x : It), j < xs.length → (upL f xs j).count x = xs.count x
  | 0, _, _, _, _ => rfl
  | f + 1, xs, j, x, h => by
    simp only [upL]
    split
    · rfl
    · split
      · rw [up_count f _ _ x (by rw [swapN_len]; omega), count_swap (by omega) h]
      · rfl
theorem dnC_lt {xs : List It} {i n : Nat} (h : ¬ n ≤ 2 * i + 1) : dnC xs i n < n := by
  unfold dnC
  split <;> omega
theorem dn_count : ∀ (f : Nat) (xs : List It) (i n : Nat) (x : It), n ≤ xs.length → (dnL f xs i n).count x = xs.count x
  | 0, _, _, _, _, _ => rfl
  | f + 1, xs, i, n, x, h => by
    simp only [dnL]
    split
    · rfl
    · rename_i hn
      have := dnC_lt (xs := xs) hn
      split
      · rw [dn_count f _ _ n x (by rw [swapN_len]; omega), count_swap (by omega) (by omega)]
      · rfl
theorem dn_far : ∀ (f : Nat) (xs : List It) (i n k : Nat), n ≤ xs.length → n ≤ k → at_ (dnL f xs i n) k = at_ xs k
  | 0, _, _, _, _, _, _ => rfl
  | f + 1, xs, i, n, k, h, hk => by
    simp only [dnL]
    split
    · rfl
    · rename_i hn
      have := dnC_lt (xs := xs) hn
      split
      · rw [dn_far f _ _ n k (by rw [swapN_len]; omega) hk, at_swap (by omega) (by omega), if_neg (by omega), if_neg (by omega)]
      · rfl
def Heap (xs : List It) : Prop := ∀ k, 0 < k → k < xs.length → le (at_ xs ((k - 1) / 2)) (at_ xs k)
theorem up_heap : ∀ (f : Nat) (xs : List It) (j : Nat), j < f → j < xs.length → (∀ k, 0 < k → k < xs.length → k ≠ j → le (at_ xs ((k - 1) / 2)) (at_ xs k)) → (∀ k, 0 < k → k < xs.length → (k - 1) / 2 = j → 0 < j → le (at_ xs ((j - 1) / 2)) (at_ xs k)) → Heap (upL f xs j)
  | 0, _, _, h, _, _, _ => by omega
  | f + 1, xs, j, hf, hj, h1, h2 => by
    simp only [upL]
    split
    · intro k k0 kl
      exact h1 k k0 kl (by omega)
    · rename_i hne
      split
      · rename_i hb
        have hl := le_of_bef hb
        refine up_heap f _ _ (by omega) (by rw [swapN_len]; omega) ?_ ?_
        · intro k k0 kl kp
          rw [swapN_len] at kl
          rw [at_swap (by omega) hj, at_swap (by omega) hj]
          by_cases q : k = j
          · subst q
            rw [if_neg (by omega), if_pos rfl, if_pos rfl]
            exact hl
          · rw [if_neg q, if_neg kp]
            by_cases q1 : (k - 1) / 2 = j
            · rw [if_pos q1]
              exact h2 k k0 kl q1 (by omega)
            · rw [if_neg q1]
              by_cases q2 : (k - 1) / 2 = (j - 1) / 2
              · rw [if_pos q2]
                refine le_trans hl ?_
                rw [← q2]
                exact h1 k k0 kl q
              · rw [if_neg q2]
                exact h1 k k0 kl q
        · intro k k0 kl kp p0
          rw [swapN_len] at kl
          rw [at_swap (by omega) hj, at_swap (by omega) hj]
          rw [if_neg (by omega), if_neg (by omega)]
          have hp := h1 ((j - 1) / 2) p0 (by omega) (by omega)
          by_cases q : k = j
          · rw [if_pos q]
            exact hp
          · rw [if_neg q, if_neg (by omega)]
            refine le_trans hp ?_
            rw [← kp]
            exact h1 k k0 kl q
      · rename_i hb
        intro k k0 kl
        by_cases q : k = j
        · subst q
          exact le_of_not hb
        · exact h1 k k0 kl q
def HeapFrom (m : Nat) (xs : List It) (n : Nat) : Prop := ∀ k, 0 < k → k < n → m ≤ (k - 1) / 2 → le (at_ xs ((k - 1) / 2)) (at_ xs k)
theorem dn_heap : ∀ (f m : Nat) (xs : List It) (i n : Nat), n < f + i → m ≤ i → n ≤ xs.length → (∀ k, 0 < k → k < n → m ≤ (k - 1) / 2 → (k - 1) / 2 ≠ i → le (at_ xs ((k - 1) / 2)) (at_ xs k)) → (∀ k, 0 < k → k < n → (k - 1) / 2 = i → 0 < i → m ≤ (i - 1) / 2 → le (at_ xs ((i - 1) / 2)) (at_ xs k)) → HeapFrom m (dnL f xs i n) n
  | 0, m, xs, i, n, hf, hm, hn, h1, h2 => by
    intro k k0 kl km
    exact h1 k k0 kl km (by omega)
  | f + 1, m, xs, i, n, hf, hm, hn, h1, h2 => by
    simp only [dnL]
    split
    · intro k k0 kl km
      exact h1 k k0 kl km (by omega)
    · rename_i hlt
      have hc := dnC_lt (xs := xs) hlt
      have hc2 : dnC xs i n = 2 * i + 1 ∨ dnC xs i n = 2 * i + 2 := by
        unfold dnC
        split <;> omega
      have hmin : ∀ k, 0 < k → k < n → (k - 1) / 2 = i → le (at_ xs (dnC xs i n)) (at_ xs k) := by
        intro k k0 kl kp
        unfold dnC
        split
        · rename_i hb
          rcases (show k = 2 * i + 1 ∨ k = 2 * i + 2 by omega) with rfl | rfl
          · exact le_of_bef hb.2
          · exact le_refl _
        · rename_i hb
          rcases (show k = 2 * i + 1 ∨ k = 2 * i + 2 by omega) with rfl | rfl
          · exact le_refl _
          · exact le_of_not (fun e => hb ⟨kl, e⟩)
      generalize dnC xs i n = c at hc hc2 hmin
      split
      · rename_i hb
        have hl := le_of_bef hb
        refine dn_heap f m _ c n (by omega) (by omega) (by rw [swapN_len]; exact hn) ?_ ?_
        · intro k k0 kl km kp
          rw [at_swap (by omega) (by omega), at_swap (by omega) (by omega), if_neg kp]
          by_cases q1 : (k - 1) / 2 = i
          · rw [if_pos q1]
            by_cases q : k = c
            · rw [if_pos q]
              exact hl
            · rw [if_neg q, if_neg (by omega)]
              exact hmin k k0 kl q1
          · rw [if_neg q1, if_neg (by omega)]
            by_cases q : k = i
            · subst q
              rw [if_pos rfl]
              exact h2 c (by omega) hc (by omega) k0 km
            · rw [if_neg q]
              exact h1 k k0 kl km q1
        · intro k k0 kl kp c0 cm
          rw [at_swap (by omega) (by omega), at_swap (by omega) (by omega), if_neg (by omega), if_pos (by omega), if_neg (by omega), if_neg (by omega)]
          have := h1 k k0 kl (by omega) (by omega)
          rw [kp] at this
          exact this
      · rename_i hb
        have hl := le_of_not hb
        intro k k0 kl km
        by_cases q : (k - 1) / 2 = i
        · rw [q]
          exact le_trans hl (hmin k k0 kl q)
        · exact h1 k k0 kl km q
theorem root_le {xs : List It} (h : Heap xs) : ∀ k, k < xs.length → le (at_ xs 0) (at_ xs k) := by
  intro k
  induction k using Nat.strongRecOn with
  | ind k ih =>
    intro hk
    rcases Nat.eq_zero_or_pos k with rfl | h0
    · exact le_refl _
    · exact le_trans (ih ((k - 1) / 2) (by omega) (by omega)) (h k h0 hk)
theorem root_mem {xs : List It} (h : Heap xs) (x : It) (hx : x ∈ xs) : le (at_ xs 0) x := by
  obtain ⟨k, hk, rfl⟩ := List.getElem_of_mem hx
  have := root_le h k hk
  rwa [show at_ xs k = xs[k] by simp [at_, List.getD_eq_getElem?_getD, hk]] at this
theorem push_heap {xs : List It} (h : Heap xs) (x : It) : Heap (pushL xs x) := by
  refine up_heap _ _ _ (by omega) (by simp) ?_ ?_
  · intro k k0 kl kn
    have hkl : k < xs.length := by simp at kl; omega
    have e : ∀ m, m < xs.length → at_ (xs ++ [x]) m = at_ xs m := fun m hm => by simp [at_, List.getD_eq_getElem?_getD, List.getElem?_append_left hm]
    rw [e _ (by omega), e _ hkl]
    exact h k k0 hkl
  · intro k k0 kl kp
    simp at kl
    omega
theorem push_count (xs : List It) (x y : It) : (pushL xs x).count y = (xs ++ [x]).count y := up_count _ _ _ y (by simp)
theorem init_count : ∀ (k : Nat) (xs : List It) (x : It), (initL k xs).count x = xs.count x
  | 0, _, _ => rfl
  | k + 1, xs, x => by rw [initL, init_count k, dn_count _ _ _ _ _ (Nat.le_refl _)]
theorem init_from : ∀ (k : Nat) (xs : List It), HeapFrom k xs xs.length → HeapFrom 0 (initL k xs) xs.length
  | 0, _, h => h
  | k + 1, xs, h => by
    rw [initL]
    have := init_from k (dnL (xs.length + 1) xs k xs.length) (by
      rw [dnL_len]
      refine dn_heap _ k xs k _ (by omega) (Nat.le_refl _) (Nat.le_refl _) ?_ ?_
      · intro m m0 ml mk mn
        exact h m m0 ml (by omega)
      · intro m m0 ml mk k0 km
        omega)
    rwa [dnL_len] at this
theorem init_heap (xs : List It) : Heap (initL (xs.length / 2) xs) := by
  intro k k0 kl
  rw [initL_len] at kl
  exact init_from (xs.length / 2) xs (fun m m0 ml mk => by omega) k k0 kl (Nat.zero_le _)
theorem pop_heap {xs : List It} (h : Heap xs) : Heap (popL xs) := by
  intro k k0 kl
  rw [popL_len] at kl
  have e : ∀ m, m < xs.length - 1 → at_ (popL xs) m = at_ (popZ xs) m := fun m hm => by
    simp [at_, popL, List.getD_eq_getElem?_getD, List.getElem?_take_of_lt hm]
  rw [e _ (by omega), e _ kl]
  unfold popZ
  refine dn_heap _ 0 _ 0 (xs.length - 1) (by omega) (Nat.le_refl _) (by rw [swapN_len]; omega) ?_ ?_ k k0 kl (Nat.zero_le _)
  · intro m m0 ml mk mn
    rw [at_swap (by omega) (by omega), at_swap (by omega) (by omega), if_neg (by omega), if_neg (by omega), if_neg (by omega), if_neg (by omega)]
    exact h m m0 (by omega)
  · intro m m0 ml mk k0
    omega
theorem pop_count {xs : List It} (h : 0 < xs.length) (x : It) : (popL xs).count x + (if at_ xs 0 = x then 1 else 0) = xs.count x := by
  have hz : (popZ xs).count x = xs.count x := by
    unfold popZ
    rw [dn_count _ _ _ _ _ (by rw [swapN_len]; omega), count_swap (by omega) (by omega)]
  have hl : at_ (popZ xs) (xs.length - 1) = at_ xs 0 := by
    unfold popZ
    rw [dn_far _ _ _ _ _ (by rw [swapN_len]; omega) (Nat.le_refl _), at_swap (by omega) (by omega), if_pos rfl]
  have hn := popZ_len xs
  have hs : popZ xs = popL xs ++ [at_ xs 0] := by
    have h1 : popZ xs = (popZ xs).take (xs.length - 1) ++ (popZ xs).drop (xs.length - 1) := (List.take_append_drop _ _).symm
    have h2 : (popZ xs).drop (xs.length - 1) = [at_ xs 0] := by
      rw [List.drop_eq_getElem_cons (by omega), List.drop_eq_nil_of_le (by omega)]
      rw [← hl, at_, List.getD_eq_getElem?_getD, List.getElem?_eq_getElem (by omega)]
      rfl
    rw [h2] at h1
    exact h1
  rw [← hz, hs, List.count_append]
  by_cases q : at_ xs 0 = x <;> simp [q]
end Go.Proofs.Ytndfoohdoadkfaa
