/- A region whose order is drawn, with new blocks and stores into them: each operation is shown once, whatever the order. No condition. -/
import Derived.Test.YtndfoohdoadkfaaArr
set_option linter.unusedVariables false
set_option linter.unusedSimpArgs false
namespace Go.Proofs.Ytndfoohdoadkfaa
open Go.RowKit
/-- A whole array or struct stored into a block that is known whole. -/
theorem wp_store_whole {P : Program} {op : Oper} {a : Act} {w : World} {K : Act → World → Prop} {Q : Exit → Act → World → Prop} (ty : TypeId) (x y : Operand) (ho : op.op = .store ty x y)
    (g : Nat) (cells cs0 : Array Value) (t : TypeId) (hx : a.eval x = .pointer (some ⟨g, 0, none⟩)) (hy : a.eval y = .agg cells)
    (hg : w.heap[g]? = some (.cells cs0 t (0, 0))) (hs : cs0.size = cells.size) (hi : (P.info? ty).map (·.size) = some cells.size) (h1 : cells.all (·.oneCell') = true)
    (h : ∀ w1, w1.heap[g]? = some (.cells cells t (0, 0)) → w1.heap.size = w.heap.size → (∀ k, k ≠ g → w1.heap[k]? = w.heap[k]?) → (∀ B w0, B ≤ g → Below B w0 w → Below B w0 w1) → K (a.put op.dst undef) w1) : op.wp P a w K Q :=
  wp_store_mid ty x y ho g 0 cells hx hy (there_of hg hs) hi h1
    (h _ (by rw [setCells_heap g _ 0 w cs0 t (0, 0) hg, over_all _ _ hs]) (setCells_size g _ 0 w) (fun k hk => setCells_far g k hk _ 0 w) (fun B w0 hB hb => setCells_below g _ 0 B w0 w hB hb))
section
variable {P : Program} {ops : Array Oper} {Q : Exit → Act → World → Prop} {md : Region.Mode}
/-- THE RULE with whatever invariant. -/
theorem drawn_inv (hk : phaseOk md ops ops.size = true) (Inv : (Nat → Bool) → (Nat → Value) → World → Prop) (a0 : Act) (ws : World)
    (h0 : Inv (fun _ => false) (fun _ => undef) ws)
    (hstep : ∀ i, i < ops.size → ∀ (b : Nat → Bool) (vals : Nat → Value) (W : World), b i = false → (∀ j ∈ needs md ops i, b j = true) → (∀ k, k < ops.size → b k = true → ∀ j ∈ needs md ops k, b j = true) → Inv b vals W →
      ∃ o, ops[i]? = some o ∧ ∀ K : Act → World → Prop, (∀ v W1, Inv (upB b i) (upV vals i v) W1 → K ((slots ops b vals a0 ops.size).put (dstOf ops i) v) W1) →
        if Region.wanted o (yielded ops (slots ops b vals a0 ops.size).tmps) = true then Oper.wp P o (slots ops b vals a0 ops.size) W K Q else K ((slots ops b vals a0 ops.size).put o.dst undef) W)
    (hend : ∀ (b : Nat → Bool) (vals : Nat → Value) (W : World), (∀ i, i < ops.size → b i = true) → Inv b vals W → wpAny P md ops Q 0 (lst ops.size ops.size fun _ => true) (slots ops (fun _ => true) vals a0 ops.size) W) :
    wpAny P md ops Q ops.size (Array.replicate ops.size false) a0 ws := by
  have hk' := hk
  simp only [phaseOk, Bool.and_eq_true, List.all_eq_true, List.mem_range, decide_eq_true_eq] at hk'
  obtain ⟨⟨hk1, hk2⟩, hk3⟩ := hk'
  have hd : ∀ i j, i < ops.size → j < ops.size → j ≠ i → ∀ d, dstOf ops j = some d → dstOf ops i ≠ some d := by
    intro i j hi hj hne d h1 h2
    have := hk2 i hi j hj
    simp [h1, h2, Ne.symm hne] at this
  have main : ∀ m (b : Nat → Bool) (vals : Nat → Value) (W : World), openN b ops.size = m → (∀ k, k < ops.size → b k = true → ∀ j ∈ needs md ops k, b j = true) → Inv b vals W → wpAny P md ops Q m (lst ops.size ops.size b) (slots ops b vals a0 ops.size) W := by
    intro m
    induction m with
    | zero =>
      intro b vals W hm hcl hI
      have hall := openN_zero ops.size hm
      have e1 : lst ops.size ops.size b = lst ops.size ops.size fun _ => true := by
        unfold lst
        congr 1
        apply List.map_congr_left
        intro i hi
        simp [hall i (List.mem_range.1 hi)]
      have e2 : ∀ k, k ≤ ops.size → slots ops b vals a0 k = slots ops (fun _ => true) vals a0 k := by
        intro k
        induction k with
        | zero => intro _; rfl
        | succ k ih => intro hk; simp only [slots, hall k (by omega), if_true, ih (by omega)]
      rw [e1, e2 ops.size (Nat.le_refl _)]
      exact hend b vals W hall hI
    | succ m ih =>
      intro b vals W hm hcl hI
      refine ⟨fun h0 => ?_, fun i hi => ?_⟩
      · obtain ⟨i, hi, hbi, hlow⟩ := openN_first ops.size (b := b) (by omega)
        have hmem : i ∈ Region.ready md ops (lst ops.size ops.size b) := by
          rw [mem_ready']
          refine ⟨hi, by rw [lst_get hi]; simp [hbi], fun j hj => ?_⟩
          have hji : j < i := by
            have := hk1 i hi
            rw [if_pos hi, List.all_eq_true] at this
            simpa using this j hj
          rw [lst_get (by omega)]
          simp [hlow j hji]
          omega
        rw [h0] at hmem
        cases hmem
      · rw [mem_ready'] at hi
        obtain ⟨hi1, hi2, hi3⟩ := hi
        rw [lst_get hi1] at hi2
        have hbi : b i = false := by simpa [hi1] using hi2
        have hn : ∀ j ∈ needs md ops i, b j = true := by
          intro j hj
          have := hi3 j hj
          have hji : j < i := by
            have := hk1 i hi1
            rw [if_pos hi1, List.all_eq_true] at this
            simpa using this j hj
          rw [lst_get (by omega)] at this
          simp at this
          exact this.2
        obtain ⟨o, ho, hs⟩ := hstep i hi1 b vals W hbi hn hcl hI
        rw [lst_up hi1 hi1]
        refine wpOp_step ho (fun K' hK' => hs K' (fun v W1 hI1 => hK' _ _ ?_))
        rw [slots_put hbi ops.size hi1 (fun j hj hne d h3 => hd i j hi1 hj hne d h3)]
        refine ih (upB b i) (upV vals i v) W1 ?_ ?_ hI1
        · have := (openN_up hbi ops.size).1 hi1
          omega
        · intro k hk hbk j hj
          by_cases ej : j = i
          · simp [upB, ej]
          · simp only [upB, if_neg ej]
            by_cases ek : k = i
            · subst ek; exact hn j hj
            · simp only [upB, if_neg ek] at hbk
              exact hcl k hk hbk j hj
  have hm0 := main (openN (fun _ => false) ops.size) (fun _ => false) (fun _ => undef) ws rfl (fun _ _ h => by cases h) h0
  have e0 : ∀ n, openN (fun _ => false) n = n := by
    intro n
    induction n with
    | zero => rfl
    | succ k ih => simp [openN, ih]
  have e1 : lst ops.size ops.size (fun _ => false) = Array.replicate ops.size false := by
    apply Array.ext
    · simp [lst]
    · intro i h1 h2
      simp [lst]
  have e2 : ∀ k, slots ops (fun _ => false) (fun _ => undef) a0 k = a0 := by
    intro k
    induction k with
    | zero => rfl
    | succ k ih => simp [slots, ih]
  rw [e0, e1, e2] at hm0
  exact hm0
/-- What an operation leaves: a known value; a new block of type T with cells Z, into which number k stores S; such a store (into the block of number i). -/
inductive Lf where
  | v (v : Value)
  | nw (T : TypeId) (Z S : Array Value) (k : Nat)
  | st (i : Nat)
def LfHolds (ws : World) (D : List Lf) (b : Nat → Bool) (vals : Nat → Value) (W : World) (j : Nat) : Prop := match D[j]? with
  | some (Lf.v v) => vals j = v
  | some (Lf.nw T Z S k) => ∃ g, vals j = .pointer (some ⟨g, 0, none⟩) ∧ ws.heap.size ≤ g ∧ W.heap[g]? = some (.cells (if b k = true then S else Z) T (0, 0))
  | _ => True
def isNew (D : List Lf) (j : Nat) : Bool := match D[j]? with
  | some (Lf.nw _ _ _ _) => true
  | _ => false
structure LfInv (ws : World) (n : Nat) (D : List Lf) (b : Nat → Bool) (vals : Nat → Value) (W : World) : Prop where
  bel : Below ws.heap.size ws W
  has : ∀ j, j < n → b j = true → LfHolds ws D b vals W j
  apart : ∀ i j, i < n → j < n → i ≠ j → b i = true → b j = true → isNew D i = true → isNew D j = true → vals i ≠ vals j
/-- A store waits for its block, and each block has its own store. -/
def lfOk (md : Region.Mode) (ops : Array Oper) (D : List Lf) : Bool := decide (D.length = ops.size) && (List.range D.length).all fun j => match D[j]? with
  | some (Lf.nw _ _ _ k) => (match D[k]? with | some (Lf.st i) => decide (i = j) && decide (dstOf ops k = none) && (needs md ops k).contains j | _ => false)
  | some (Lf.st i) => (match D[i]? with | some (Lf.nw _ _ _ k) => decide (k = j) | _ => false)
  | _ => true
theorem drawn_st {id : Nat} {a0 : Act} {w : World} (D : List Lf) (hm : P.follows .mixedOrders = true) (hk : phaseOk .any ops ops.size = true) (hok : lfOk .any ops D = true)
    (hz : (List.range D.length).all (fun j => match dstOf ops j with | some d => decide (d < a0.tmps.size) | none => true) = true)
    (hval : ∀ (i : Nat) (v : Value), D[i]? = some (Lf.v v) → ∀ (a : Act) (W : World), (∀ j, (needs .any ops i).contains j = true → ∀ c, D[j]? = some (Lf.v c) → ∀ d, dstOf ops j = some d → a.tmps[d]? = some c) →
      (∀ d, (List.range D.length).all (fun j => !decide (dstOf ops j = some d)) = true → a.tmps[d]? = a0.tmps[d]?) → Below w.heap.size w W →
      ∃ o, ops[i]? = some o ∧ ∀ K : Act → World → Prop, (∀ W1, Below W.heap.size W W1 → K (a.put o.dst v) W1) → if Region.wanted o (yielded ops a.tmps) = true then Oper.wp P o a W K Q else K (a.put o.dst undef) W)
    (hnew : ∀ (i : Nat) (T : TypeId) (Z S : Array Value) (k : Nat), D[i]? = some (Lf.nw T Z S k) → ∀ (a : Act) (W : World), ∃ o, ops[i]? = some o ∧ ∀ K : Act → World → Prop, K (a.put o.dst (.pointer (some ⟨W.heap.size, 0, none⟩))) (W.alloc (.cells Z T)) → if Region.wanted o (yielded ops a.tmps) = true then Oper.wp P o a W K Q else K (a.put o.dst undef) W)
    (hput : ∀ (i m : Nat) (T : TypeId) (Z S : Array Value), D[i]? = some (Lf.st m) → D[m]? = some (Lf.nw T Z S i) → ∀ (a : Act) (W : World) (g : Nat), (∀ d, dstOf ops m = some d → a.tmps[d]? = some (.pointer (some ⟨g, 0, none⟩))) → W.heap[g]? = some (.cells Z T (0, 0)) →
      (∀ j, (needs .any ops i).contains j = true → ∀ c, D[j]? = some (Lf.v c) → ∀ d, dstOf ops j = some d → a.tmps[d]? = some c) →
      ∃ o, ops[i]? = some o ∧ ∀ K : Act → World → Prop, (∀ v W1, W1.heap[g]? = some (.cells S T (0, 0)) → W1.heap.size = W.heap.size → (∀ k, k ≠ g → W1.heap[k]? = W.heap[k]?) → (∀ B w0, B ≤ g → Below B w0 W → Below B w0 W1) → K (a.put o.dst v) W1) → if Region.wanted o (yielded ops a.tmps) = true then Oper.wp P o a W K Q else K (a.put o.dst undef) W)
    (hend : ∀ (b : Nat → Bool) (vals : Nat → Value) (W : World), (∀ i, i < D.length → b i = true) → LfInv w D.length D b vals W → wpAny P .any ops Q 0 (lst ops.size ops.size fun _ => true) (slots ops (fun _ => true) vals a0 ops.size) W) :
    (Code.region id ops true).wp P Q a0 w := by
  have hk' := hk
  simp only [phaseOk, Bool.and_eq_true, List.all_eq_true, List.mem_range, decide_eq_true_eq] at hk'
  obtain ⟨⟨hk1, hk2⟩, hk3⟩ := hk'
  have hok' := hok
  simp only [lfOk, Bool.and_eq_true, List.all_eq_true, List.mem_range, decide_eq_true_eq] at hok'
  obtain ⟨hlen, hall⟩ := hok'
  have F1 : ∀ j T Z S k, D[j]? = some (Lf.nw T Z S k) → D[k]? = some (Lf.st j) ∧ dstOf ops k = none ∧ (needs .any ops k).contains j = true := by
    intro j T Z S k e1
    have hj : j < D.length := (List.getElem?_eq_some_iff.1 e1).1
    have := hall j hj
    rw [e1] at this
    simp only at this
    cases hk : D[k]? with
    | none => rw [hk] at this; cases this
    | some l =>
      rw [hk] at this
      cases l with
      | v _ => cases this
      | nw _ _ _ _ => cases this
      | st i =>
        simp only [Bool.and_eq_true, decide_eq_true_eq] at this
        obtain ⟨⟨h1, h2⟩, h3⟩ := this
        subst h1
        exact ⟨rfl, h2, h3⟩
  have F2 : ∀ j i, D[j]? = some (Lf.st i) → ∃ T Z S, D[i]? = some (Lf.nw T Z S j) := by
    intro j i e1
    have hj : j < D.length := (List.getElem?_eq_some_iff.1 e1).1
    have := hall j hj
    rw [e1] at this
    simp only at this
    cases hk : D[i]? with
    | none => rw [hk] at this; cases this
    | some l =>
      rw [hk] at this
      cases l with
      | v _ => cases this
      | st _ => cases this
      | nw T Z S k =>
        simp only [decide_eq_true_eq] at this
        subst this
        exact ⟨T, Z, S, rfl⟩
  have hget : ∀ (b : Nat → Bool) (vals : Nat → Value) j d, j < ops.size → b j = true → dstOf ops j = some d → (slots ops b vals a0 ops.size).tmps[d]? = some (vals j) := by
    intro b vals j d hj hb hd
    refine slots_get hb hd ?_ ops.size hj ?_
    · have := List.all_eq_true.1 hz j (List.mem_range.2 (by omega))
      simpa [hd] using this
    · intro k hk hne h
      have := hk2 k hk j hj
      simp [h, hd, hne] at this
  refine wp_region_any hm (drawn_inv hk (fun b vals W => LfInv w D.length D b vals W) a0 w.drew ?_ ?_ ?_)
  · exact { bel := (Below.refl _ _).drew, has := fun _ _ h => (by cases h), apart := fun _ _ _ _ _ h => (by cases h) }
  · intro i hi b vals W hbi hn hcl hI
    have hiD : i < D.length := by omega
    have s1 : ∀ j, (needs .any ops i).contains j = true → ∀ c, D[j]? = some (Lf.v c) → ∀ d, dstOf ops j = some d → (slots ops b vals a0 ops.size).tmps[d]? = some c := by
      intro j hj c hc d hd
      have hj' : j ∈ needs .any ops i := by simpa using hj
      have hjl : j < D.length := (List.getElem?_eq_some_iff.1 hc).1
      have := hI.has j hjl (hn j hj')
      simp only [LfHolds, hc] at this
      rw [hget b vals j d (by omega) (hn j hj') hd, this]
    have s2 : ∀ d, (List.range D.length).all (fun j => !decide (dstOf ops j = some d)) = true → (slots ops b vals a0 ops.size).tmps[d]? = a0.tmps[d]? := by
      intro d hd
      refine slots_old ops.size (fun j hj h => ?_)
      have := List.all_eq_true.1 hd j (List.mem_range.2 (by omega))
      simp [h] at this
    have hlt : ∀ j, j < D.length → b j = true → isNew D j = true → ∃ g, vals j = .pointer (some ⟨g, 0, none⟩) ∧ w.heap.size ≤ g ∧ g < W.heap.size := by
      intro j hj hb hnw
      have := hI.has j hj hb
      unfold isNew at hnw
      unfold LfHolds at this
      split at hnw
      · rename_i e
        rw [e] at this
        obtain ⟨g, h1, h2, h3⟩ := this
        exact ⟨g, h1, h2, heap_lt h3⟩
      · cases hnw
    -- what holds of the others stays under Below
    have keep : ∀ (v : Value) (W1 : World), (∀ T Z S k, D[i]? ≠ some (Lf.nw T Z S k)) → (∀ m, D[i]? ≠ some (Lf.st m)) → (∀ c, D[i]? = some (Lf.v c) → v = c) → Below W.heap.size W W1 → LfInv w D.length D (upB b i) (upV vals i v) W1 := by
      intro v W1 h1 h2 h3 hb
      refine ⟨hI.bel.trans (hb.mono hI.bel.size), ?_, ?_⟩
      · intro j hj hbj
        by_cases e : j = i
        · subst e
          unfold LfHolds
          split
          · rename_i e1; rw [upV, if_pos rfl]; exact h3 _ e1
          · rename_i e1; exact absurd e1 (h1 _ _ _ _)
          · trivial
        · simp only [upB, if_neg e] at hbj
          have := hI.has j hj hbj
          unfold LfHolds at this ⊢
          split at this
          · rename_i e1; simp only [e1, upV, if_neg e]; exact this
          · rename_i T Z S k e1
            have hki : k ≠ i := by
              rintro rfl
              exact h2 _ (F1 _ _ _ _ _ e1).1
            simp only [e1, upV, if_neg e, upB, if_neg hki]
            obtain ⟨g, g1, g2, g3⟩ := this
            exact ⟨g, g1, g2, (hb.block g (heap_lt g3)).trans g3⟩
          · trivial
      · intro p q hp hq hne hbp hbq np nq
        have hpi : p ≠ i := by
          rintro rfl
          unfold isNew at np
          split at np
          · rename_i e1; exact h1 _ _ _ _ e1
          · cases np
        have hqi : q ≠ i := by
          rintro rfl
          unfold isNew at nq
          split at nq
          · rename_i e1; exact h1 _ _ _ _ e1
          · cases nq
        simp only [upB, if_neg hpi, if_neg hqi] at hbp hbq
        simp only [upV, if_neg hpi, if_neg hqi]
        exact hI.apart p q hp hq hne hbp hbq np nq
    cases hDi : D[i]? with
    | none => rw [List.getElem?_eq_none_iff] at hDi; omega
    | some l =>
      cases l with
      | v v =>
        obtain ⟨o, ho, hs⟩ := hval i v hDi (slots ops b vals a0 ops.size) W s1 s2 hI.bel
        refine ⟨o, ho, fun K hK => hs K (fun W1 hb => ?_)⟩
        have e : dstOf ops i = o.dst := by simp [dstOf, ho]
        rw [← e]
        exact hK v W1 (keep v W1 (by rw [hDi]; simp) (by rw [hDi]; simp) (by rw [hDi]; intro c h; injection h with h; injection h) hb)
      | nw T Z S k =>
        obtain ⟨o, ho, hs⟩ := hnew i T Z S k hDi (slots ops b vals a0 ops.size) W
        refine ⟨o, ho, fun K hK => hs K ?_⟩
        have e : dstOf ops i = o.dst := by simp [dstOf, ho]
        rw [← e]
        have hki : k ≠ i ∧ b k = false := by
          obtain ⟨e2, _, e3⟩ := F1 _ _ _ _ _ hDi
          refine ⟨?_, ?_⟩
          · rintro rfl
            rw [hDi] at e2
            cases e2
          · cases hbk : b k with
            | false => rfl
            | true =>
              have hkl : k < D.length := (List.getElem?_eq_some_iff.1 e2).1
              have := hcl k (by omega) hbk i (by simpa using e3)
              rw [hbi] at this
              cases this
        have hb : Below W.heap.size W (W.alloc (.cells Z T)) := (Below.refl _ _).alloc (Nat.le_refl _) _
        refine hK _ _ ⟨hI.bel.trans (hb.mono hI.bel.size), ?_, ?_⟩
        · intro j hj hbj
          by_cases e : j = i
          · subst e
            simp only [LfHolds, hDi, upV, if_true, upB, if_neg hki.1, hki.2, Bool.false_eq_true, if_false]
            exact ⟨_, rfl, hI.bel.size, heap_alloc_new W _⟩
          · simp only [upB, if_neg e] at hbj
            have := hI.has j hj hbj
            unfold LfHolds at this ⊢
            split at this
            · rename_i e1; simp only [e1, upV, if_neg e]; exact this
            · rename_i T' Z' S' k' e1
              have hki' : k' ≠ i := by
                rintro rfl
                have e2 := (F1 _ _ _ _ _ e1).1
                rw [hDi] at e2
                cases e2
              simp only [e1, upV, if_neg e, upB, if_neg hki']
              obtain ⟨g, g1, g2, g3⟩ := this
              exact ⟨g, g1, g2, (hb.block g (heap_lt g3)).trans g3⟩
            · trivial
        · intro p q hp hq hne hbp hbq np nq
          by_cases ep : p = i
          · have eq : ¬ q = i := fun h => hne (ep.trans h.symm)
            simp only [upB, if_neg eq] at hbq
            simp only [upV, if_neg eq, if_pos ep]
            obtain ⟨g, h1, _, h3⟩ := hlt q hq hbq nq
            rw [h1]
            intro h
            injection h with h; injection h with h; injection h with h
            omega
          · simp only [upB, if_neg ep] at hbp
            by_cases eq : q = i
            · simp only [upV, if_neg ep, if_pos eq]
              obtain ⟨g, h1, _, h3⟩ := hlt p hp hbp np
              rw [h1]
              intro h
              injection h with h; injection h with h; injection h with h
              omega
            · simp only [upB, if_neg eq] at hbq
              simp only [upV, if_neg ep, if_neg eq]
              exact hI.apart p q hp hq hne hbp hbq np nq
      | st m =>
        obtain ⟨T, Z, S, hDm⟩ := F2 _ _ hDi
        have hml : m < D.length := (List.getElem?_eq_some_iff.1 hDm).1
        have hmn : (needs .any ops i).contains m = true ∧ dstOf ops i = none := ⟨(F1 _ _ _ _ _ hDm).2.2, (F1 _ _ _ _ _ hDm).2.1⟩
        have hbm : b m = true := hn m (by simpa using hmn.1)
        obtain ⟨g, g1, g2, g3⟩ : ∃ g, vals m = .pointer (some ⟨g, 0, none⟩) ∧ w.heap.size ≤ g ∧ W.heap[g]? = some (.cells Z T (0, 0)) := by
          have := hI.has m hml hbm
          simp only [LfHolds, hDm, hbi, Bool.false_eq_true, if_false] at this
          exact this
        obtain ⟨o, ho, hs⟩ := hput i m T Z S hDi hDm (slots ops b vals a0 ops.size) W g (fun d hd => by rw [hget b vals m d (by omega) hbm hd, g1]) g3 s1
        refine ⟨o, ho, fun K hK => hs K (fun v W1 k1 k2 k3 k4 => ?_)⟩
        have e : dstOf ops i = o.dst := by simp [dstOf, ho]
        rw [← e]
        have hmi : m ≠ i := by
          rintro rfl
          rw [hbi] at hbm
          cases hbm
        refine hK v W1 ⟨k4 _ _ g2 hI.bel, ?_, ?_⟩
        · intro j hj hbj
          by_cases e : j = i
          · subst e
            simp only [LfHolds, hDi]
          · simp only [upB, if_neg e] at hbj
            by_cases ejm : j = m
            · subst ejm
              simp only [LfHolds, hDm, upV, if_neg e, upB, if_true]
              exact ⟨g, g1, g2, k1⟩
            · have := hI.has j hj hbj
              unfold LfHolds at this ⊢
              split at this
              · rename_i e1; simp only [e1, upV, if_neg e]; exact this
              · rename_i T' Z' S' k' e1
                have hki' : k' ≠ i := by
                  rintro rfl
                  have e2 := (F1 _ _ _ _ _ e1).1
                  rw [hDi] at e2
                  injection e2 with e2; injection e2 with e2
                  exact ejm e2.symm
                simp only [e1, upV, if_neg e, upB, if_neg hki']
                obtain ⟨g', h1, h2, h3⟩ := this
                refine ⟨g', h1, h2, ?_⟩
                rw [k3 g' ?_]
                · exact h3
                · rintro rfl
                  exact hI.apart j m hj hml ejm hbj hbm (by simp [isNew, e1]) (by simp [isNew, hDm]) (by rw [h1, g1])
              · trivial
        · intro p q hp hq hne hbp hbq np nq
          have hpi : p ≠ i := by
            rintro rfl
            simp [isNew, hDi] at np
          have hqi : q ≠ i := by
            rintro rfl
            simp [isNew, hDi] at nq
          simp only [upB, if_neg hpi, if_neg hqi] at hbp hbq
          simp only [upV, if_neg hpi, if_neg hqi]
          exact hI.apart p q hp hq hne hbp hbq np nq
  · intro b vals W hb hI
    exact hend b vals W (fun i hi => hb i (by omega)) hI
/-- What an operation leaves, told by a predicate that lives on where old blocks stay. -/
def Mono (F : Value → World → Prop) : Prop := ∀ v W W1, F v W → Below W.heap.size W W1 → F v W1
def Fv (c : Value) : Value → World → Prop := fun v _ => v = c
theorem mono_v (c : Value) : Mono (Fv c) := fun _ _ _ h _ => h
theorem drawn_phi {id : Nat} {a0 : Act} {w : World} (Ds : List (Value → World → Prop)) (hm : P.follows .mixedOrders = true) (hk : phaseOk .any ops Ds.length = true)
    (hz : (List.range Ds.length).all (fun j => match dstOf ops j with | some d => decide (d < a0.tmps.size) | none => true) = true)
    (hmono : ∀ (i : Nat) (F : Value → World → Prop), Ds[i]? = some F → Mono F)
    (hstep : ∀ (i : Nat) (F : Value → World → Prop), Ds[i]? = some F → ∀ (a : Act) (W : World), (∀ j, (needs .any ops i).contains j = true → ∀ (G : Value → World → Prop), Ds[j]? = some G → ∀ d, dstOf ops j = some d → ∃ v, a.tmps[d]? = some v ∧ G v W) →
      (∀ d, (List.range Ds.length).all (fun j => !decide (dstOf ops j = some d)) = true → a.tmps[d]? = a0.tmps[d]?) → Below w.heap.size w W →
      ∃ o, ops[i]? = some o ∧ ∀ K : Act → World → Prop, (∀ v W1, F v W1 → Below W.heap.size W W1 → K (a.put o.dst v) W1) → if Region.wanted o (yielded ops a.tmps) = true then Oper.wp P o a W K Q else K (a.put o.dst undef) W)
    (hend : ∀ (vals : Nat → Value) (W : World), (∀ (i : Nat) (F : Value → World → Prop), Ds[i]? = some F → F (vals i) W) → Below w.heap.size w W → wpAny P .any ops Q (ops.size - Ds.length) (lst ops.size Ds.length fun _ => true) (slots ops (fun _ => true) vals a0 Ds.length) W) :
    (Code.region id ops true).wp P Q a0 w := by
  have hget : ∀ i, i < Ds.length → ∃ F, Ds[i]? = some F := fun i hi => ⟨Ds[i], List.getElem?_eq_getElem hi⟩
  refine wp_region_any hm (drawn_any (n1 := Ds.length) hk (fun i v W => ∀ F, Ds[i]? = some F → F v W) (fun _ => false) a0 w.drew ?_ ?_ ?_ ?_)
  · intro i v W W1 h hb F hF
    exact hmono i F hF v W W1 (h F hF) hb
  · intro i v W h
    cases h
  · intro i hi b vals W hn hphi hB
    have hk' := hk
    simp only [phaseOk, Bool.and_eq_true, List.all_eq_true, List.mem_range, decide_eq_true_eq] at hk'
    obtain ⟨⟨hk1, hk2⟩, hk3⟩ := hk'
    have hB' : Below w.heap.size w W := ⟨hB.os, hB.tape, hB.output, hB.size, hB.block⟩
    obtain ⟨F, hF⟩ := hget i hi
    have s1 : ∀ j, (needs .any ops i).contains j = true → ∀ (G : Value → World → Prop), Ds[j]? = some G → ∀ d, dstOf ops j = some d → ∃ v, (slots ops b vals a0 Ds.length).tmps[d]? = some v ∧ G v W := by
      intro j hj G hG d hd
      have hj' : j ∈ needs .any ops i := by simpa using hj
      have hjl : j < Ds.length := (List.getElem?_eq_some_iff.1 hG).1
      refine ⟨vals j, slots_get (hn j hj') hd ?_ Ds.length hjl ?_, hphi j hjl (hn j hj') G hG⟩
      · have := List.all_eq_true.1 hz j (List.mem_range.2 hjl)
        simpa [hd] using this
      · intro k hk hne h
        have := hk2 k hk j hjl
        simp [h, hd, hne] at this
    have s2 : ∀ d, (List.range Ds.length).all (fun j => !decide (dstOf ops j = some d)) = true → (slots ops b vals a0 Ds.length).tmps[d]? = a0.tmps[d]? := by
      intro d hd
      refine slots_old Ds.length (fun j hj h => ?_)
      have := List.all_eq_true.1 hd j (List.mem_range.2 hj)
      simp [h] at this
    obtain ⟨o, ho, hs⟩ := hstep i F hF (slots ops b vals a0 Ds.length) W s1 s2 hB'
    refine ⟨o, ho, fun K hK => hs K (fun v W1 h1 h2 => ?_)⟩
    have e : dstOf ops i = o.dst := by simp [dstOf, ho]
    rw [← e]
    exact hK v W1 (fun F' hF' => by rw [hF] at hF'; injection hF' with hF'; subst hF'; exact h1) h2 (fun h => by cases h)
  · intro vals W h1 h2 h3
    exact hend vals W (fun i F hF => h1 i (List.getElem?_eq_some_iff.1 hF).1 F hF) ⟨h3.os, h3.tape, h3.output, h3.size, h3.block⟩
end
end Go.Proofs.Ytndfoohdoadkfaa
