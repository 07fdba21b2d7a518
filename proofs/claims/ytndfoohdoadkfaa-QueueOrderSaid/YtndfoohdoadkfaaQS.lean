/- A drawn region with three effects, one behind the other, whose values may hang on the world. No condition. -/
import Derived.Test.YtndfoohdoadkfaaQC
set_option linter.unusedVariables false
set_option linter.unusedSimpArgs false
namespace Go.Proofs.Ytndfoohdoadkfaa
open Go.RowKit
section
variable {P : Program} {ops : Array Oper} {Q : Exit → Act → World → Prop}
def cnt3 (b : Nat → Bool) (c1 c2 c3 : Nat) : Nat := (b c1).toNat + (b c2).toNat + (b c3).toNat
theorem drawn_s3 {id : Nat} {a0 : Act} {w : World} (D : List (Option Value)) (c1 c2 c3 : Nat) (S : Nat → Value → Value → World → Prop) (hm : P.follows .mixedOrders = true) (hk : phaseOk .any ops ops.size = true) (hlen : D.length = ops.size)
    (hz : (List.range D.length).all (fun j => match dstOf ops j with | some d => decide (d < a0.tmps.size) | none => true) = true) (hc1 : c1 < ops.size) (hc2 : c2 < ops.size) (hc3 : c3 < ops.size) (h12 : (needs .any ops c2).contains c1 = true) (h23 : (needs .any ops c3).contains c2 = true)
    (hd12 : c1 ≠ c2) (hd13 : c1 ≠ c3) (hd23 : c2 ≠ c3) (hsp : ∀ j v, D[j]? = some (some v) → j ≠ c1 ∧ j ≠ c2 ∧ j ≠ c3) (hno : ∀ j, D[j]? = some none → j = c1 ∨ j = c2 ∨ j = c3) (h0 : ∀ u1 u2, S 0 u1 u2 w.drew)
    (hstep : ∀ (i : Nat) (v : Value), D[i]? = some (some v) → ∀ (a : Act) (W : World) (k : Nat) (u1 u2 : Value), ((needs .any ops c1).contains i = true → k ≤ 0) → ((needs .any ops c2).contains i = true → k ≤ 1) → ((needs .any ops c3).contains i = true → k ≤ 2) →
      (∀ j, (needs .any ops i).contains j = true → ∀ x, D[j]? = some (some x) → ∀ d, dstOf ops j = some d → a.tmps[d]? = some x) →
      (∀ d, (List.range D.length).all (fun j => !decide (dstOf ops j = some d)) = true → a.tmps[d]? = a0.tmps[d]?) → S k u1 u2 W →
      ∃ o, ops[i]? = some o ∧ ∀ K : Act → World → Prop, K (a.put o.dst v) W → if Region.wanted o (yielded ops a.tmps) = true then Oper.wp P o a W K Q else K (a.put o.dst undef) W)
    (heff : ∀ (a : Act) (W : World) (k : Nat) (u1 u2 : Value) (i : Nat), ((k = 0 ∧ i = c1) ∨ (k = 1 ∧ i = c2) ∨ (k = 2 ∧ i = c3)) →
      (∀ j, (needs .any ops i).contains j = true → ∀ x, D[j]? = some (some x) → ∀ d, dstOf ops j = some d → a.tmps[d]? = some x) → (1 ≤ k → ∀ d, (needs .any ops i).contains c1 = true → dstOf ops c1 = some d → a.tmps[d]? = some u1) → (2 ≤ k → ∀ d, (needs .any ops i).contains c2 = true → dstOf ops c2 = some d → a.tmps[d]? = some u2) →
      (∀ d, (List.range D.length).all (fun j => !decide (dstOf ops j = some d)) = true → a.tmps[d]? = a0.tmps[d]?) → S k u1 u2 W →
      ∃ o, ops[i]? = some o ∧ ∀ K : Act → World → Prop, (∀ u W1, S (k + 1) (if i = c1 then u else u1) (if i = c2 then u else u2) W1 → K (a.put o.dst u) W1) → if Region.wanted o (yielded ops a.tmps) = true then Oper.wp P o a W K Q else K (a.put o.dst undef) W)
    (hend : ∀ (vals : Nat → Value) (W : World), (∀ i v, D[i]? = some (some v) → vals i = v) → S 3 (vals c1) (vals c2) W → wpAny P .any ops Q 0 (lst ops.size ops.size fun _ => true) (slots ops (fun _ => true) vals a0 ops.size) W) :
    (Code.region id ops true).wp P Q a0 w := by
  have hk' := hk
  simp only [phaseOk, Bool.and_eq_true, List.all_eq_true, List.mem_range, decide_eq_true_eq] at hk'
  obtain ⟨⟨hk1, hk2⟩, hk3⟩ := hk'
  have hget : ∀ (b : Nat → Bool) (vals : Nat → Value) j d, j < ops.size → b j = true → dstOf ops j = some d → (slots ops b vals a0 ops.size).tmps[d]? = some (vals j) := by
    intro b vals j d hj hb hd
    refine slots_get hb hd ?_ ops.size hj ?_
    · have := List.all_eq_true.1 hz j (List.mem_range.2 (by omega))
      simpa [hd] using this
    · intro k hk hne h
      have := hk2 k hk j hj
      simp [h, hd, hne] at this
  refine wp_region_any hm (drawn_inv hk (fun b vals W => S (cnt3 b c1 c2 c3) (vals c1) (vals c2) W ∧ ∀ j v, D[j]? = some (some v) → b j = true → vals j = v) a0 w.drew ⟨h0 _ _, fun _ _ _ h => (by cases h)⟩ ?_ ?_)
  · intro i hi b vals W hbi hn hcl hI
    obtain ⟨hS, hV⟩ := hI
    have hiD : i < D.length := by omega
    have hDi : D[i]? = some D[i] := List.getElem?_eq_getElem hiD
    have b21 : b c2 = true → b c1 = true := fun h => hcl c2 hc2 h c1 (by simpa using h12)
    have b32 : b c3 = true → b c2 = true := fun h => hcl c3 hc3 h c2 (by simpa using h23)
    have no : ∀ c, c < ops.size → (needs .any ops c).contains i = true → b c = false := by
      intro c hc h
      cases hb : b c with
      | false => rfl
      | true =>
        have := hcl c hc hb i (by simpa using h)
        rw [hbi] at this
        cases this
    have s1 : ∀ j, (needs .any ops i).contains j = true → ∀ x, D[j]? = some (some x) → ∀ d, dstOf ops j = some d → (slots ops b vals a0 ops.size).tmps[d]? = some x := fun j hj x hx d hd => by
      have hj' : j ∈ needs .any ops i := by simpa using hj
      have hjl : j < D.length := (List.getElem?_eq_some_iff.1 hx).1
      rw [hget b vals j d (by omega) (hn j hj') hd, hV j x hx (hn j hj')]
    have s2 : ∀ d, (List.range D.length).all (fun j => !decide (dstOf ops j = some d)) = true → (slots ops b vals a0 ops.size).tmps[d]? = a0.tmps[d]? := fun d hd => by
      refine slots_old ops.size (fun j hj h => ?_)
      have := List.all_eq_true.1 hd j (List.mem_range.2 (by omega))
      simp [h] at this
    have upo : ∀ c, c ≠ i → upB b i c = b c := fun c h => by unfold upB; rw [if_neg h]
    have upvo : ∀ c u, c ≠ i → upV vals i u c = vals c := fun c u h => by unfold upV; rw [if_neg h]
    cases hDv : D[i] with
    | some v =>
      rw [hDv] at hDi
      obtain ⟨n1, n2, n3⟩ := hsp i v hDi
      obtain ⟨o, ho, hs⟩ := hstep i v hDi (slots ops b vals a0 ops.size) W (cnt3 b c1 c2 c3) (vals c1) (vals c2)
        (fun h => by
          have q := no c1 hc1 h
          have q2 : b c2 = false := by
            cases hb : b c2 with
            | false => rfl
            | true => rw [b21 hb] at q; cases q
          have q3 : b c3 = false := by
            cases hb : b c3 with
            | false => rfl
            | true => rw [b32 hb] at q2; cases q2
          simp only [cnt3, q, q2, q3, Bool.toNat_false]
          omega)
        (fun h => by
          have q := no c2 hc2 h
          have q3 : b c3 = false := by
            cases hb : b c3 with
            | false => rfl
            | true => rw [b32 hb] at q; cases q
          simp only [cnt3, q, q3, Bool.toNat_false]
          have := Bool.toNat_le (b c1)
          omega)
        (fun h => by
          have q := no c3 hc3 h
          simp only [cnt3, q, Bool.toNat_false]
          have := Bool.toNat_le (b c1)
          have := Bool.toNat_le (b c2)
          omega) s1 s2 hS
      refine ⟨o, ho, fun K hK => hs K ?_⟩
      have e : dstOf ops i = o.dst := by simp [dstOf, ho]
      rw [← e]
      refine hK v W ⟨?_, ?_⟩
      · rw [cnt3, upo c1 (Ne.symm n1), upo c2 (Ne.symm n2), upo c3 (Ne.symm n3), upvo c1 v (Ne.symm n1), upvo c2 v (Ne.symm n2)]
        exact hS
      · intro j x hx hbj
        by_cases q : j = i
        · subst q
          rw [hDi] at hx
          injection hx with hx
          injection hx with hx
          simp [upV, hx]
        · rw [upo j q] at hbj
          rw [upvo j v q]
          exact hV j x hx hbj
    | none =>
      rw [hDv] at hDi
      have hcase : ∃ k, cnt3 b c1 c2 c3 = k ∧ ((k = 0 ∧ i = c1) ∨ (k = 1 ∧ i = c2) ∨ (k = 2 ∧ i = c3)) := by
        rcases hno i hDi with rfl | rfl | rfl
        · have q2 : b c2 = false := no c2 hc2 h12
          have q3 : b c3 = false := by
            cases hb : b c3 with
            | false => rfl
            | true => rw [b32 hb] at q2; cases q2
          exact ⟨0, by simp [cnt3, hbi, q2, q3], .inl ⟨rfl, rfl⟩⟩
        · have q1 : b c1 = true := hn c1 (by simpa using h12)
          have q3 : b c3 = false := no c3 hc3 h23
          exact ⟨1, by simp [cnt3, hbi, q1, q3], .inr (.inl ⟨rfl, rfl⟩)⟩
        · have q2 : b c2 = true := hn c2 (by simpa using h23)
          have q1 : b c1 = true := b21 q2
          exact ⟨2, by simp [cnt3, hbi, q1, q2], .inr (.inr ⟨rfl, rfl⟩)⟩
      obtain ⟨k, hck, hc⟩ := hcase
      rw [hck] at hS
      obtain ⟨o, ho, hs⟩ := heff (slots ops b vals a0 ops.size) W k (vals c1) (vals c2) i hc s1
        (fun _ d hj hd => hget b vals c1 d hc1 (hn c1 (by simpa using hj)) hd) (fun _ d hj hd => hget b vals c2 d hc2 (hn c2 (by simpa using hj)) hd) s2 hS
      refine ⟨o, ho, fun K hK => hs K (fun u W1 h1 => ?_)⟩
      have e : dstOf ops i = o.dst := by simp [dstOf, ho]
      rw [← e]
      refine hK u W1 ⟨?_, ?_⟩
      · have e1 : upV vals i u c1 = if i = c1 then u else vals c1 := by
          unfold upV
          by_cases q : c1 = i
          · rw [if_pos q, if_pos q.symm]
          · rw [if_neg q, if_neg (Ne.symm q)]
        have e2 : upV vals i u c2 = if i = c2 then u else vals c2 := by
          unfold upV
          by_cases q : c2 = i
          · rw [if_pos q, if_pos q.symm]
          · rw [if_neg q, if_neg (Ne.symm q)]
        have e3 : cnt3 (upB b i) c1 c2 c3 = k + 1 := by
          rw [← hck]
          rcases hc with ⟨_, rfl⟩ | ⟨_, rfl⟩ | ⟨_, rfl⟩
          · rw [cnt3, cnt3, upo c2 hd12.symm, upo c3 hd13.symm, hbi]
            simp [upB]
            omega
          · rw [cnt3, cnt3, upo c1 hd12, upo c3 hd23.symm, hbi]
            simp [upB]
            omega
          · rw [cnt3, cnt3, upo c1 hd13, upo c2 hd23, hbi]
            simp [upB]
        rw [e1, e2, e3]
        exact h1
      · intro j x hx hbj
        have q : j ≠ i := by
          rintro rfl
          rw [hDi] at hx
          cases hx
        rw [upo j q] at hbj
        rw [upvo j u q]
        exact hV j x hx hbj
  · intro b vals W hb hI
    refine hend vals W (fun i v hv => hI.2 i v hv (hb i (by have := (List.getElem?_eq_some_iff.1 hv).1; omega))) ?_
    have := hI.1
    rw [cnt3, hb c1 hc1, hb c2 hc2, hb c3 hc3] at this
    exact this
end
end Go.Proofs.Ytndfoohdoadkfaa
