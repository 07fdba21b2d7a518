/- A region whose order is drawn: its first operations come up in any order, each is shown once; behind them the rest. -/
import Derived.Test.YtndfoohdoadkfaaBase
set_option linter.unusedVariables false
set_option linter.unusedSimpArgs false
namespace Go.Proofs.Ytndfoohdoadkfaa
open Go.RowKit
section
variable {P : Program} {ops : Array Oper} {Q : Exit → Act → World → Prop} {md : Region.Mode}

def needs (md : Region.Mode) (ops : Array Oper) (i : Nat) : List Nat := match ops[i]? with
  | some o => (o.after.toList.filter fun e => Region.binds md e).map fun e => e.on
  | none => []
def dstOf (ops : Array Oper) (i : Nat) : Option Tmp := (ops[i]?).bind fun o => o.dst
/-- The slots that are filled: number i's, where b says so. -/
def slots (ops : Array Oper) (b : Nat → Bool) (vals : Nat → Value) (a : Act) : Nat → Act
  | 0 => a
  | k + 1 => if b k = true then (slots ops b vals a k).put (dstOf ops k) (vals k) else slots ops b vals a k
def upB (b : Nat → Bool) (i : Nat) : Nat → Bool := fun j => if j = i then true else b j
def upV (vals : Nat → Value) (i : Nat) (v : Value) : Nat → Value := fun j => if j = i then v else vals j
/-- What one waits for, through others. -/
def clStep (md : Region.Mode) (ops : Array Oper) (S : List Nat) : List Nat := S ++ (S.flatMap fun j => needs md ops j).filter fun x => !S.contains x
def cl (md : Region.Mode) (ops : Array Oper) : Nat → List Nat → List Nat
  | 0, S => S
  | k + 1, S => cl md ops k (clStep md ops S).eraseDups
theorem cl_all {p : Nat → Prop} (hp : ∀ j, p j → ∀ x ∈ needs md ops j, p x) : ∀ (k : Nat) (S : List Nat), (∀ x ∈ S, p x) → ∀ x ∈ cl md ops k S, p x
  | 0, S, h => h
  | k + 1, S, h => by
    refine cl_all hp k _ (fun x hx => ?_)
    rw [List.mem_eraseDups, clStep, List.mem_append, List.mem_filter, List.mem_flatMap] at hx
    rcases hx with hx | ⟨⟨j, hj, hx⟩, _⟩
    · exact h x hx
    · exact hp j (h j hj) x hx
def phaseOk (md : Region.Mode) (ops : Array Oper) (n1 : Nat) : Bool :=
  (List.range ops.size).all (fun i => if i < n1 then (needs md ops i).all (fun j => decide (j < i)) else (List.range n1).all fun j => (cl md ops 8 (needs md ops i)).contains j) &&
  (List.range n1).all (fun i => (List.range n1).all fun j => decide (i = j) || decide (dstOf ops i = none) || !decide (dstOf ops i = dstOf ops j)) && decide (n1 ≤ ops.size)
def lst (n n1 : Nat) (b : Nat → Bool) : Array Bool := ((List.range n).map fun i => decide (i < n1) && b i).toArray

theorem lst_get {n n1 i : Nat} {b : Nat → Bool} {d : Bool} (h : i < n) : (lst n n1 b).getD i d = (decide (i < n1) && b i) := by
  simp [lst, h]
theorem lst_out {n n1 i : Nat} {b : Nat → Bool} {d : Bool} (h : n ≤ i) : (lst n n1 b).getD i d = d := by
  simp [lst, Array.getD_eq_getD_getElem?, Array.getElem?_eq_none, h]
theorem lst_up {n n1 i : Nat} {b : Nat → Bool} (hi : i < n1) (hn : i < n) : (lst n n1 b).setIfInBounds i true = lst n n1 (upB b i) := by
  apply Array.ext
  · simp [lst]
  · intro j h1 h2
    simp [lst] at h1 h2
    rw [Array.getElem_setIfInBounds (by simp [lst]; omega)]
    by_cases hij : i = j
    · subst hij
      simp [lst, upB, hi]
    · rw [if_neg hij]
      simp [lst, upB, Ne.symm hij]
theorem slots_up_ge {b : Nat → Bool} {vals : Nat → Value} {a : Act} {i : Nat} {v : Value} : ∀ k, k ≤ i → slots ops (upB b i) (upV vals i v) a k = slots ops b vals a k
  | 0, _ => rfl
  | k + 1, h => by
    have hk : ¬ k = i := by omega
    have ih := slots_up_ge (b := b) (vals := vals) (a := a) (v := v) k (show k ≤ i by omega)
    simp only [slots, ih]
    simp only [upB, upV, if_neg hk]
theorem slots_put {b : Nat → Bool} {vals : Nat → Value} {a : Act} {i : Nat} {v : Value} (hb : b i = false) : ∀ k, i < k → (∀ j, j < k → j ≠ i → ∀ d, dstOf ops j = some d → dstOf ops i ≠ some d) →
    (slots ops b vals a k).put (dstOf ops i) v = slots ops (upB b i) (upV vals i v) a k
  | 0, h, _ => by omega
  | k + 1, h, hd => by
    by_cases hk : i = k
    · subst hk
      simp only [slots, upB, upV, if_true, hb, Bool.false_eq_true, if_false]
      rw [slots_up_ge i (Nat.le_refl _)]
    · have ih := slots_put (a := a) (vals := vals) (v := v) hb k (by omega) (fun j hj => hd j (by omega))
      have hk' : ¬ k = i := Ne.symm hk
      simp only [slots, upB, upV, if_neg hk']
      by_cases hbk : b k = true
      · rw [if_pos hbk, if_pos hbk, ← ih, Act.put_comm _ _ _ (fun d h1 => hd k (by omega) hk' d h1)]
      · rw [if_neg hbk, if_neg hbk, ih]
theorem put_size (a : Act) (d : Option Tmp) (v : Value) : (a.put d v).tmps.size = a.tmps.size := by
  cases d <;> simp [Act.put]
theorem slots_size {b : Nat → Bool} {vals : Nat → Value} {a : Act} : ∀ k, (slots ops b vals a k).tmps.size = a.tmps.size
  | 0 => rfl
  | k + 1 => by
    unfold slots
    split
    · rw [put_size, slots_size k]
    · exact slots_size k
theorem slots_get {b : Nat → Bool} {vals : Nat → Value} {a : Act} {i : Nat} {d : Tmp} (hb : b i = true) (hdi : dstOf ops i = some d) (hs : d < a.tmps.size) : ∀ k, i < k → (∀ j, j < k → j ≠ i → dstOf ops j ≠ some d) → (slots ops b vals a k).tmps[d]? = some (vals i)
  | 0, h, _ => by omega
  | k + 1, h, hd => by
    by_cases hk : i = k
    · subst hk
      have hz := slots_size (ops := ops) (b := b) (vals := vals) (a := a) i
      simp only [slots, hb, if_true, hdi, Act.put]
      rw [Array.getElem?_setIfInBounds_self_of_lt (by rw [hz]; exact hs)]
    · have ih := slots_get (vals := vals) hb hdi hs k (by omega) (fun j hj => hd j (by omega))
      unfold slots
      split
      · cases hdk : dstOf ops k with
        | none => exact ih
        | some e =>
          have hne : e ≠ d := fun he => hd k (by omega) (Ne.symm hk) (by rw [hdk, he])
          simp only [Act.put]
          rw [Array.getElem?_setIfInBounds_ne hne, ih]
      · exact ih
theorem slots_old {b : Nat → Bool} {vals : Nat → Value} {a : Act} {d : Tmp} : ∀ k, (∀ j, j < k → dstOf ops j ≠ some d) → (slots ops b vals a k).tmps[d]? = a.tmps[d]?
  | 0, _ => rfl
  | k + 1, hd => by
    have ih := slots_old (b := b) (vals := vals) (a := a) k (fun j hj => hd j (by omega))
    unfold slots
    split
    · cases hdk : dstOf ops k with
      | none => exact ih
      | some e =>
        have hne : e ≠ d := fun he => hd k (by omega) (by rw [hdk, he])
        simp only [Act.put]
        rw [Array.getElem?_setIfInBounds_ne hne, ih]
    · exact ih
theorem slots_defers {b : Nat → Bool} {vals : Nat → Value} {a : Act} : ∀ k, (slots ops b vals a k).defers = a.defers
  | 0 => rfl
  | k + 1 => by
    unfold slots
    split
    · cases hdk : dstOf ops k <;> exact slots_defers k
    · exact slots_defers k

def openN (b : Nat → Bool) : Nat → Nat
  | 0 => 0
  | k + 1 => openN b k + if b k = true then 0 else 1
theorem openN_up {b : Nat → Bool} {i : Nat} (hb : b i = false) : ∀ k, (i < k → openN (upB b i) k + 1 = openN b k) ∧ (k ≤ i → openN (upB b i) k = openN b k)
  | 0 => ⟨fun h => by omega, fun _ => rfl⟩
  | k + 1 => by
    obtain ⟨h1, h2⟩ := openN_up hb k
    constructor
    · intro h
      by_cases hk : k = i
      · subst hk
        have := h2 (Nat.le_refl _)
        simp [openN, upB, hb, this]
      · have := h1 (by omega)
        simp only [openN, upB, if_neg hk]
        omega
    · intro h
      have := h2 (by omega)
      have hk : ¬ k = i := by omega
      simp only [openN, upB, if_neg hk, this]
theorem openN_zero {b : Nat → Bool} : ∀ k, openN b k = 0 → ∀ i, i < k → b i = true
  | 0, _, _, h => by omega
  | k + 1, h, i, hi => by
    simp only [openN] at h
    by_cases hk : b k = true
    · by_cases e : i = k
      · rw [e]; exact hk
      · exact openN_zero k (by omega) i (by omega)
    · rw [if_neg hk] at h; omega
theorem openN_first {b : Nat → Bool} : ∀ k, openN b k ≠ 0 → ∃ i, i < k ∧ b i = false ∧ ∀ j, j < i → b j = true
  | 0, h => absurd rfl h
  | k + 1, h => by
    by_cases h0 : openN b k = 0
    · refine ⟨k, by omega, ?_, openN_zero k h0⟩
      simp only [openN, h0] at h
      by_cases hk : b k = true
      · simp [hk] at h
      · simpa using hk
    · obtain ⟨i, h1, h2, h3⟩ := openN_first k h0
      exact ⟨i, by omega, h2, h3⟩

theorem mem_ready' {i : Nat} {listed : Array Bool} : i ∈ Region.ready md ops listed ↔ i < ops.size ∧ listed.getD i true = false ∧ ∀ j ∈ needs md ops i, listed.getD j false = true := by
  simp only [Region.ready, List.mem_filter, List.mem_range, Bool.and_eq_true]
  constructor
  · rintro ⟨h1, h2, h3⟩
    refine ⟨h1, by simpa using h2, fun j hj => ?_⟩
    simp only [needs, Array.getElem?_eq_getElem h1, List.mem_map, List.mem_filter, Array.mem_toList_iff] at hj
    obtain ⟨e, ⟨he, hbd⟩, rfl⟩ := hj
    simp only [Array.getElem?_eq_getElem h1, Option.map_some, Option.getD_some, Array.all_eq_true] at h3
    obtain ⟨n, hn, rfl⟩ := Array.getElem_of_mem he
    have := h3 n hn
    simpa [hbd] using this
  · rintro ⟨h1, h2, h3⟩
    refine ⟨h1, by simpa using h2, ?_⟩
    simp only [Array.getElem?_eq_getElem h1, Option.map_some, Option.getD_some, Array.all_eq_true]
    intro n hn
    cases hbd : Region.binds md (ops[i].after[n]) with
    | false => simp
    | true =>
      have := h3 (ops[i].after[n]).on (by
        simp only [needs, Array.getElem?_eq_getElem h1, List.mem_map, List.mem_filter, Array.mem_toList_iff]
        exact ⟨_, ⟨Array.getElem_mem hn, hbd⟩, rfl⟩)
      simp [this]

/-- THE RULE. φ i v W: what number i leaves (v in its slot); A: those that lay a new block. -/
theorem drawn_any {n1 : Nat} (hk : phaseOk md ops n1 = true) (φ : Nat → Value → World → Prop) (A : Nat → Bool) (a0 : Act) (ws : World)
    (hφ : ∀ i v W W1, φ i v W → Below W.heap.size W W1 → φ i v W1)
    (hA : ∀ i v W, A i = true → φ i v W → ∃ g, v = .pointer (some ⟨g, 0, none⟩) ∧ g < W.heap.size)
    (hstep : ∀ i, i < n1 → ∀ (b : Nat → Bool) (vals : Nat → Value) (W : World), (∀ j ∈ needs md ops i, b j = true) → (∀ j, j < n1 → b j = true → φ j (vals j) W) → Below ws.heap.size ws W →
      ∃ o, ops[i]? = some o ∧ ∀ K : Act → World → Prop, (∀ v W1, φ i v W1 → Below W.heap.size W W1 → (A i = true → v = .pointer (some ⟨W.heap.size, 0, none⟩)) → K ((slots ops b vals a0 n1).put (dstOf ops i) v) W1) →
        if Region.wanted o (yielded ops (slots ops b vals a0 n1).tmps) = true then Oper.wp P o (slots ops b vals a0 n1) W K Q else K ((slots ops b vals a0 n1).put o.dst undef) W)
    (hend : ∀ (vals : Nat → Value) (W : World), (∀ i, i < n1 → φ i (vals i) W) → (∀ i j, i < n1 → j < n1 → i ≠ j → A i = true → A j = true → vals i ≠ vals j) → Below ws.heap.size ws W →
      wpAny P md ops Q (ops.size - n1) (lst ops.size n1 fun _ => true) (slots ops (fun _ => true) vals a0 n1) W) :
    wpAny P md ops Q ops.size (Array.replicate ops.size false) a0 ws := by
  simp only [phaseOk, Bool.and_eq_true, List.all_eq_true, List.mem_range, decide_eq_true_eq] at hk
  obtain ⟨⟨hk1, hk2⟩, hk3⟩ := hk
  have hd : ∀ i j, i < n1 → j < n1 → j ≠ i → ∀ d, dstOf ops j = some d → dstOf ops i ≠ some d := by
    intro i j hi hj hne d h1 h2
    have := hk2 i hi j hj
    simp [h1, h2, Ne.symm hne] at this
  have main : ∀ m (b : Nat → Bool) (vals : Nat → Value) (W : World), openN b n1 = m → (∀ j, j < n1 → b j = true → φ j (vals j) W) → (∀ i j, i < n1 → j < n1 → i ≠ j → b i = true → b j = true → A i = true → A j = true → vals i ≠ vals j) → (∀ i, i < n1 → b i = true → ∀ j ∈ needs md ops i, b j = true) → Below ws.heap.size ws W →
      wpAny P md ops Q (m + (ops.size - n1)) (lst ops.size n1 b) (slots ops b vals a0 n1) W := by
    intro m
    induction m with
    | zero =>
      intro b vals W hm h1 h2 hcl hB
      have hall := openN_zero n1 hm
      have e1 : lst ops.size n1 b = lst ops.size n1 fun _ => true := by
        unfold lst
        congr 1
        apply List.map_congr_left
        intro i _
        by_cases hi : i < n1
        · simp [hi, hall i hi]
        · simp [hi]
      have e2 : ∀ k, k ≤ n1 → slots ops b vals a0 k = slots ops (fun _ => true) vals a0 k := by
        intro k
        induction k with
        | zero => intro _; rfl
        | succ k ih => intro hk; simp only [slots, hall k (by omega), if_true, ih (by omega)]
      rw [e1, e2 n1 (Nat.le_refl _), Nat.zero_add]
      exact hend vals W (fun i hi => h1 i hi (hall i hi)) (fun i j hi hj hne => h2 i j hi hj hne (hall i hi) (hall j hj)) hB
    | succ m ih =>
      intro b vals W hm h1 h2 hcl hB
      rw [Nat.succ_add]
      refine ⟨fun h0 => ?_, fun i hi => ?_⟩
      · obtain ⟨i, hi, hbi, hlow⟩ := openN_first n1 (b := b) (by omega)
        have hmem : i ∈ Region.ready md ops (lst ops.size n1 b) := by
          rw [mem_ready']
          refine ⟨by omega, by rw [lst_get (by omega)]; simp [hbi], fun j hj => ?_⟩
          have hji : j < i := by
            have := hk1 i (by omega)
            rw [if_pos hi, List.all_eq_true] at this
            simpa using this j hj
          rw [lst_get (by omega)]
          simp [hlow j hji]
          omega
        rw [h0] at hmem
        cases hmem
      · rw [mem_ready'] at hi
        obtain ⟨hi1, hi2, hi3⟩ := hi
        have hin : i < n1 := by
          rcases Nat.lt_or_ge i n1 with h | h
          · exact h
          · exfalso
            obtain ⟨j, hj, hbj, _⟩ := openN_first n1 (b := b) (by omega)
            have := hk1 i hi1
            rw [if_neg (by omega), List.all_eq_true] at this
            have hc := this j (List.mem_range.2 hj)
            have hlt : ∀ x, (lst ops.size n1 b).getD x false = true → x < n1 ∧ b x = true := by
              intro x hx
              rcases Nat.lt_or_ge x ops.size with h' | h'
              · rw [lst_get h'] at hx; simpa using hx
              · rw [lst_out h'] at hx; cases hx
            have := cl_all (md := md) (ops := ops) (p := fun x => x < n1 ∧ b x = true) (fun y hy x hx => ⟨?_, hcl y hy.1 hy.2 x hx⟩) 8 _ (fun x hx => hlt x (hi3 x hx)) j (by simpa using hc)
            · simp [hbj] at this
            · have h5 := hk1 y (by omega)
              rw [if_pos hy.1, List.all_eq_true] at h5
              have := h5 x hx
              simp at this
              omega
        rw [lst_get hi1] at hi2
        have hbi : b i = false := by simpa [hin] using hi2
        have hn : ∀ j ∈ needs md ops i, b j = true := by
          intro j hj
          have := hi3 j hj
          have hji : j < i := by
            have := hk1 i (by omega)
            rw [if_pos hin, List.all_eq_true] at this
            simpa using this j hj
          rw [lst_get (by omega)] at this
          simp at this
          exact this.2
        obtain ⟨o, ho, hs⟩ := hstep i hin b vals W hn h1 hB
        rw [lst_up hin hi1]
        refine wpOp_step ho (fun K' hK' => hs K' (fun v W1 hv hb hAv => hK' _ _ ?_))
        rw [slots_put hbi n1 hin (fun j hj hne d h3 => hd i j hin hj hne d h3)]
        refine ih (upB b i) (upV vals i v) W1 ?_ ?_ ?_ ?_ (hB.trans (hb.mono hB.size))
        · have := (openN_up hbi n1).1 hin
          omega
        · intro j hj hbj
          by_cases e : j = i
          · subst e; simpa [upV] using hv
          · simp only [upB, upV, if_neg e] at hbj ⊢
            exact hφ _ _ _ _ (h1 j hj hbj) hb
        · intro p q hp hq hne hbp hbq hAp hAq
          simp only [upB] at hbp hbq
          by_cases ep : p = i
          · subst ep
            have eq : ¬ q = p := fun h => hne h.symm
            simp only [upV, if_true, if_neg eq] at hbp hbq ⊢
            obtain ⟨g, hg, hlt⟩ := hA q _ W hAq (h1 q hq hbq)
            rw [hAv hAp, hg]
            intro h
            injection h with h; injection h with h; injection h with h
            omega
          · by_cases eq : q = i
            · subst eq
              simp only [upV, if_true, if_neg ep] at hbp hbq ⊢
              obtain ⟨g, hg, hlt⟩ := hA p _ W hAp (h1 p hp hbp)
              rw [hAv hAq, hg]
              intro h
              injection h with h; injection h with h; injection h with h
              omega
            · simp only [upV, if_neg ep, if_neg eq] at hbp hbq ⊢
              exact h2 p q hp hq hne hbp hbq hAp hAq
        · intro p hp hbp j hj
          by_cases ej : j = i
          · simp [upB, ej]
          · simp only [upB, if_neg ej]
            by_cases ep : p = i
            · subst ep; exact hn j hj
            · simp only [upB, if_neg ep] at hbp
              exact hcl p hp hbp j hj
  have h0 := main (openN (fun _ => false) n1) (fun _ => false) (fun _ => undef) ws rfl (fun _ _ h => by cases h) (fun _ _ _ _ _ h => by cases h) (fun _ _ h => by cases h) (Below.refl _ _)
  have e0 : openN (fun _ => false) n1 = n1 := by
    clear h0 main hend hstep hd hk1 hk2 hk3
    induction n1 with
    | zero => rfl
    | succ k ih => simp [openN, ih]
  have e1 : lst ops.size n1 (fun _ => false) = Array.replicate ops.size false := by
    apply Array.ext
    · simp [lst]
    · intro i h1 h2
      simp [lst]
  have e2 : ∀ k, slots ops (fun _ => false) (fun _ => undef) a0 k = a0 := by
    intro k
    induction k with
    | zero => rfl
    | succ k ih => simp [slots, ih]
  rw [e0, e1, e2, show n1 + (ops.size - n1) = ops.size by omega] at h0
  exact h0
/-- What number i leaves: a known value, or a new block with these cells. -/
abbrev Leaves := Value ⊕ (TypeId × Array Value)
def PhiOf (ws : World) (D : List Leaves) (i : Nat) (v : Value) (W : World) : Prop := match D[i]? with
  | some (.inl c) => v = c
  | some (.inr (T, cs)) => ∃ g, v = .pointer (some ⟨g, 0, none⟩) ∧ ws.heap.size ≤ g ∧ W.heap[g]? = some (.cells cs T (0, 0))
  | none => True
def AOf (D : List Leaves) (i : Nat) : Bool := match D[i]? with
  | some (.inr _) => true
  | _ => false
theorem heap_lt {W : World} {g : Nat} {o : Obj} (h : W.heap[g]? = some o) : g < W.heap.size := (Array.getElem?_eq_some_iff.1 h).1
theorem phi_below {ws : World} {D : List Leaves} (i : Nat) (v : Value) (W W1 : World) (h : PhiOf ws D i v W) (hb : Below W.heap.size W W1) : PhiOf ws D i v W1 := by
  unfold PhiOf at *
  split at h
  · exact h
  · obtain ⟨g, h1, h2, h3⟩ := h
    exact ⟨g, h1, h2, (hb.block g (heap_lt h3)).trans h3⟩
  · trivial
theorem phi_new {ws : World} {D : List Leaves} (i : Nat) (v : Value) (W : World) (hA : AOf D i = true) (h : PhiOf ws D i v W) : ∃ g, v = .pointer (some ⟨g, 0, none⟩) ∧ g < W.heap.size := by
  unfold AOf at hA
  unfold PhiOf at h
  split at h
  · rename_i e; rw [e] at hA; cases hA
  · obtain ⟨g, h1, h2, h3⟩ := h
    exact ⟨g, h1, heap_lt h3⟩
  · rename_i e; rw [e] at hA; cases hA

theorem cell_of_heap {W : World} {g j : Nat} {cs : Array Value} {T : TypeId} {v : Value} (h : W.heap[g]? = some (.cells cs T (0, 0))) (hj : cs[j]? = some v) : W.cell? ⟨g, j, none⟩ = some v := by
  simp only [World.cell?, h]
  exact hj
theorem frozen_of_heap {W : World} {g j : Nat} {cs : Array Value} {T : TypeId} (h : W.heap[g]? = some (.cells cs T (0, 0))) : W.frozen? ⟨g, j, none⟩ = false := by
  simp [World.frozen?, h]
theorem set_same {W : World} {g j : Nat} {cs : Array Value} {T : TypeId} {f : Nat × Nat} {v : Value} (h : W.heap[g]? = some (.cells cs T f)) : (W.setCell ⟨g, j, none⟩ v).heap[g]? = some (.cells (cs.setIfInBounds j v) T f) := by
  simp [World.setCell, Array.getElem?_modify, h]
theorem set_ne {W : World} {g g' j : Nat} {o : Option Obj} {v : Value} (hne : g' ≠ g) (h : W.heap[g']? = o) : (W.setCell ⟨g, j, none⟩ v).heap[g']? = o := by
  rw [Below.heap_setCell _ _ _ _ (by simpa using hne)]; exact h
theorem drawn_data {id : Nat} {a0 : Act} {w : World} (D : List Leaves) (hm : P.follows .mixedOrders = true) (hk : phaseOk .any ops D.length = true)
    (hz : (List.range D.length).all (fun j => match dstOf ops j with | some d => decide (d < a0.tmps.size) | none => true) = true)
    (hstep : ∀ i, i < D.length → ∀ (a : Act) (W : World), (∀ j, (needs .any ops i).contains j = true → ∀ c, D[j]? = some (.inl c) → ∀ d, dstOf ops j = some d → a.tmps[d]? = some c) →
      (∀ d, (List.range D.length).all (fun j => !decide (dstOf ops j = some d)) = true → a.tmps[d]? = a0.tmps[d]?) → Below w.heap.size w W →
      ∃ o, ops[i]? = some o ∧ ∀ K : Act → World → Prop, (∀ v W1, PhiOf w D i v W1 → Below W.heap.size W W1 → (AOf D i = true → v = .pointer (some ⟨W.heap.size, 0, none⟩)) → K (a.put o.dst v) W1) →
        if Region.wanted o (yielded ops a.tmps) = true then Oper.wp P o a W K Q else K (a.put o.dst undef) W)
    (hend : ∀ (vals : Nat → Value) (W : World), (∀ i, i < D.length → PhiOf w D i (vals i) W) → (∀ i j, i < D.length → j < D.length → i ≠ j → AOf D i = true → AOf D j = true → vals i ≠ vals j) → Below w.heap.size w W →
      wpAny P .any ops Q (ops.size - D.length) (lst ops.size D.length fun _ => true) (slots ops (fun _ => true) vals a0 D.length) W) :
    (Code.region id ops true).wp P Q a0 w := by
  refine wp_region_any hm (drawn_any (n1 := D.length) hk (PhiOf w D) (AOf D) a0 w.drew phi_below phi_new ?_ ?_)
  · intro i hi b vals W hn hphi hB
    have hk' := hk
    simp only [phaseOk, Bool.and_eq_true, List.all_eq_true, List.mem_range, decide_eq_true_eq] at hk'
    obtain ⟨⟨hk1, hk2⟩, hk3⟩ := hk'
    have hB' : Below w.heap.size w W := ⟨hB.os, hB.tape, hB.output, hB.size, hB.block⟩
    have s1 : ∀ j, (needs .any ops i).contains j = true → ∀ c, D[j]? = some (.inl c) → ∀ d, dstOf ops j = some d → (slots ops b vals a0 D.length).tmps[d]? = some c := by
      intro j hj c hc d hd
      have hj' : j ∈ needs .any ops i := by simpa using hj
      have hji : j < i := by
        have := hk1 i (by omega)
        rw [if_pos hi, List.all_eq_true] at this
        simpa using this j hj'
      have hjl : j < D.length := by omega
      rw [slots_get (hn j hj') hd ?_ D.length hjl ?_]
      · have := hphi j hjl (hn j hj')
        simp only [PhiOf, hc] at this
        rw [this]
      · have := List.all_eq_true.1 hz j (List.mem_range.2 hjl)
        simpa [hd] using this
      · intro k hk hne h
        have := hk2 k hk j hjl
        simp [h, hd, hne] at this
    have s2 : ∀ d, (List.range D.length).all (fun j => !decide (dstOf ops j = some d)) = true → (slots ops b vals a0 D.length).tmps[d]? = a0.tmps[d]? := by
      intro d hd
      refine slots_old D.length (fun j hj h => ?_)
      have := List.all_eq_true.1 hd j (List.mem_range.2 hj)
      simp [h] at this
    obtain ⟨o, ho, hs⟩ := hstep i hi (slots ops b vals a0 D.length) W s1 s2 hB'
    refine ⟨o, ho, fun K hK => hs K (fun v W1 h1 h2 h3 => ?_)⟩
    have e : dstOf ops i = o.dst := by simp [dstOf, ho]
    rw [← e]
    exact hK v W1 h1 h2 h3
  · intro vals W h1 h2 h3
    exact hend vals W h1 h2 ⟨h3.os, h3.tape, h3.output, h3.size, h3.block⟩
end
end Go.Proofs.Ytndfoohdoadkfaa
