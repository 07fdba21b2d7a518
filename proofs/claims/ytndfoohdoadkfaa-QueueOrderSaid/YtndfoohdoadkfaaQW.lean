/- A region whose order is drawn, each of whose operations leaves a known value, one of them a call that changes old memory. No condition. -/
import Derived.Test.YtndfoohdoadkfaaDrawn2
set_option linter.unusedVariables false
set_option linter.unusedSimpArgs false
namespace Go.Proofs.Ytndfoohdoadkfaa
open Go.RowKit
section
variable {P : Program} {ops : Array Oper} {Q : Exit → Act → World → Prop}
theorem drawn_wv {id : Nat} {a0 : Act} {w : World} (D : List Value) (c : Nat) (S : Bool → World → Prop) (hm : P.follows .mixedOrders = true) (hk : phaseOk .any ops ops.size = true) (hlen : D.length = ops.size)
    (hz : (List.range D.length).all (fun j => match dstOf ops j with | some d => decide (d < a0.tmps.size) | none => true) = true) (hc : c < ops.size) (h0 : S false w.drew)
    (hstep : ∀ (i : Nat) (v : Value), D[i]? = some v → ∀ (a : Act) (W : World) (t : Bool), (i = c → t = false) → (∀ j, (needs .any ops i).contains j = true → (needs .any ops j).contains c = true → t = true) → (∀ j, (needs .any ops i).contains j = true → ∀ x, D[j]? = some x → ∀ d, dstOf ops j = some d → a.tmps[d]? = some x) →
      (∀ d, (List.range D.length).all (fun j => !decide (dstOf ops j = some d)) = true → a.tmps[d]? = a0.tmps[d]?) → S t W →
      ∃ o, ops[i]? = some o ∧ ∀ K : Act → World → Prop, (∀ W1, (if i = c then S true W1 else S t W1) → K (a.put o.dst v) W1) → if Region.wanted o (yielded ops a.tmps) = true then Oper.wp P o a W K Q else K (a.put o.dst undef) W)
    (hend : ∀ (vals : Nat → Value) (W : World), (∀ i v, D[i]? = some v → vals i = v) → S true W → wpAny P .any ops Q 0 (lst ops.size ops.size fun _ => true) (slots ops (fun _ => true) vals a0 ops.size) W) :
    (Code.region id ops true).wp P Q a0 w := by
  have hk' := hk
  simp only [phaseOk, Bool.and_eq_true, List.all_eq_true, List.mem_range, decide_eq_true_eq] at hk'
  obtain ⟨⟨hk1, hk2⟩, hk3⟩ := hk'
  have hget : ∀ (b : Nat → Bool) (vals : Nat → Value) j d, j < ops.size → b j = true → dstOf ops j = some d → (slots ops b vals a0 ops.size).tmps[d]? = some (vals j) := by
    intro b vals j d hj hb hd
    refine slots_get hb hd ?_ ops.size hj ?_
    · have := List.all_eq_true.1 hz j (List.mem_range.2 (by omega))
      simpa [hd] using this
    · intro k hk hne h
      have := hk2 k hk j hj
      simp [h, hd, hne] at this
  refine wp_region_any hm (drawn_inv hk (fun b vals W => S (b c) W ∧ ∀ j v, D[j]? = some v → b j = true → vals j = v) a0 w.drew ⟨h0, fun _ _ _ h => (by cases h)⟩ ?_ ?_)
  · intro i hi b vals W hbi hn hcl hI
    obtain ⟨hS, hV⟩ := hI
    have hiD : i < D.length := by omega
    have hDi : D[i]? = some D[i] := List.getElem?_eq_getElem hiD
    obtain ⟨o, ho, hs⟩ := hstep i D[i] hDi (slots ops b vals a0 ops.size) W (b c) (fun e => by rw [← e]; exact hbi) (fun j hj hjc => by
        have hj' : j ∈ needs .any ops i := by simpa using hj
        have hb := hn j hj'
        have hjl : j < ops.size := by
          rcases Nat.lt_or_ge j ops.size with h | h
          · exact h
          · exfalso
            have : needs .any ops j = [] := by simp [needs, Array.getElem?_eq_none h]
            rw [this] at hjc
            cases hjc
        exact hcl j hjl hb c (by simpa using hjc))
      (fun j hj x hx d hd => by
        have hj' : j ∈ needs .any ops i := by simpa using hj
        have hjl : j < D.length := (List.getElem?_eq_some_iff.1 hx).1
        rw [hget b vals j d (by omega) (hn j hj') hd, hV j x hx (hn j hj')])
      (fun d hd => by
        refine slots_old ops.size (fun j hj h => ?_)
        have := List.all_eq_true.1 hd j (List.mem_range.2 (by omega))
        simp [h] at this) hS
    refine ⟨o, ho, fun K hK => hs K (fun W1 h1 => ?_)⟩
    have e : dstOf ops i = o.dst := by simp [dstOf, ho]
    rw [← e]
    refine hK D[i] W1 ⟨?_, ?_⟩
    · by_cases q : i = c
      · rw [if_pos q] at h1
        subst q
        simpa [upB] using h1
      · rw [if_neg q] at h1
        rw [upB, if_neg (fun h => q h.symm)]
        exact h1
    · intro j v hv hbj
      by_cases q : j = i
      · subst q
        rw [hDi] at hv
        injection hv with hv
        simp [upV, hv]
      · simp only [upB, if_neg q] at hbj
        simp only [upV, if_neg q]
        exact hV j v hv hbj
  · intro b vals W hb hI
    refine hend vals W (fun i v hv => hI.2 i v hv (hb i (by have := (List.getElem?_eq_some_iff.1 hv).1; omega))) ?_
    have := hI.1
    rw [hb c hc] at this
    exact this
end
end Go.Proofs.Ytndfoohdoadkfaa
