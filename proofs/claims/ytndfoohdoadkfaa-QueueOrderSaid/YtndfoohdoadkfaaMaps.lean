/- Maps in memory, by whatever keys: looked up, written, struck. No condition. -/
import Derived.Test.YtndfoohdoadkfaaRun
import Derived.MapKept
set_option linter.unusedVariables false
set_option linter.unusedSimpArgs false
namespace Go.Proofs.Ytndfoohdoadkfaa
open Go.RowKit
/-- How keys are written. -/
structure KeyEnc (P : Program) (kt : TypeId) {α : Type} [DecidableEq α] (kf : α → Value) : Prop where
  check : ∀ (e : Bool) x w, (Instr.checkKey e 10000 kt (kf x)).run P w = .ok () w
  eq : ∀ x y w, (Op.equal kt (kf x) (kf y)).run P w = .ok (decide (x = y)) w
  bits : ∀ x, Instr.sameBits 10000 (kf x) (kf x) = true
  now : ∃ d, P.underlying kt = some d ∧ ∀ x y, Instr.sameNow d (kf x) (kf y) = some (decide (x = y)) ∨ Instr.sameNow d (kf x) (kf y) = none
/-- A block that is a map with these entries, in their order. -/
def MapAt {α β : Type} (kf : α → Value) (vf : β → Value) (W : World) (m : Nat) (l : List (α × β)) : Prop :=
  ∃ es clock, W.heap[m]? = some (.map es clock) ∧ es.toList.map (fun e => (e.key, e.val)) = l.map (fun p => (kf p.1, vf p.2)) ∧ (l.map (·.1)).Nodup
def getM {α β : Type} [DecidableEq α] (l : List (α × β)) (x : α) : Option β := (l.find? fun p => decide (p.1 = x)).map (·.2)
def putM {α β : Type} [DecidableEq α] : List (α × β) → α → β → List (α × β)
  | [], x, b => [(x, b)]
  | p :: l, x, b => if p.1 = x then (x, b) :: l else p :: putM l x b
def delM {α β : Type} [DecidableEq α] (l : List (α × β)) (x : α) : List (α × β) := l.filter fun p => decide (p.1 ≠ x)
section plain
variable {α β : Type} [DecidableEq α]
theorem getM_put (l : List (α × β)) (x y : α) (b : β) : getM (putM l x b) y = if x = y then some b else getM l y := by
  induction l with
  | nil => by_cases h : x = y <;> simp [putM, getM, h]
  | cons p l ih =>
    unfold putM
    by_cases hp : p.1 = x
    · rw [if_pos hp]
      by_cases h : x = y
      · simp [getM, h]
      · have : ¬ p.1 = y := fun e => h (hp ▸ e)
        simp [getM, h, this]
    · rw [if_neg hp]
      by_cases h : p.1 = y
      · have : ¬ x = y := fun e => hp (h.trans e.symm)
        simp [getM, h, this]
      · have e1 : getM (p :: putM l x b) y = getM (putM l x b) y := by simp [getM, h]
        have e2 : getM (p :: l) y = getM l y := by simp [getM, h]
        rw [e1, e2, ih]
theorem putM_keys (l : List (α × β)) (x : α) (b : β) : (putM l x b).map (·.1) = if x ∈ l.map (·.1) then l.map (·.1) else l.map (·.1) ++ [x] := by
  induction l with
  | nil => simp [putM]
  | cons p l ih =>
    unfold putM
    by_cases hp : p.1 = x
    · rw [if_pos hp]
      simp [hp]
    · rw [if_neg hp, List.map_cons, ih]
      have hx : ¬ x = p.1 := fun e => hp e.symm
      by_cases hm : x ∈ l.map (·.1)
      · simp only [hm, if_true, List.map_cons, List.mem_cons, or_true]
      · simp only [hm, if_false, List.map_cons, List.mem_cons, hx, or_self, List.cons_append]
theorem putM_nodup (l : List (α × β)) (x : α) (b : β) (h : (l.map (·.1)).Nodup) : ((putM l x b).map (·.1)).Nodup := by
  rw [putM_keys]
  split
  · exact h
  · rename_i hm
    rw [List.nodup_append]
    refine ⟨h, by simp, fun a ha c hc => ?_⟩
    rw [List.mem_singleton] at hc
    subst hc
    exact fun e => hm (e ▸ ha)
end plain
section
variable {P : Program} {kt vt mt : TypeId} {α β : Type} [DecidableEq α] {kf : α → Value} {vf : β → Value}
/-- Where a key is found. -/
def findL (x : α) : List (α × β) → Nat → Option (Nat × β)
  | [], _ => none
  | p :: l, i => if p.1 = x then some (i, p.2) else findL x l (i + 1)
theorem findL_get (x : α) : ∀ (l : List (α × β)) (i : Nat), (findL x l i).map (·.2) = getM l x
  | [], _ => rfl
  | p :: l, i => by
    unfold findL
    by_cases h : p.1 = x
    · simp [h, getM]
    · have := findL_get x l (i + 1)
      simp only [if_neg h, this]
      simp [getM, h]
theorem find_asking (K : KeyEnc P kt kf) (x : α) (w : World) : ∀ (es : List MapEntry) (l : List (α × β)) (i : Nat), es.map (fun e => (e.key, e.val)) = l.map (fun p => (kf p.1, vf p.2)) →
    (Instr.findAsking kt (kf x) es i).run P w = .ok ((findL x l i).map fun q => (q.1, vf q.2)) w
  | [], [], i, _ => rfl
  | [], _ :: _, _, h => by simp at h
  | _ :: _, [], _, h => by simp at h
  | e :: es, p :: l, i, h => by
    simp only [List.map_cons, List.cons.injEq, Prod.mk.injEq] at h
    obtain ⟨⟨h1, h2⟩, h3⟩ := h
    have ih := find_asking K x w es l (i + 1) h3
    unfold Instr.findAsking findL
    rw [Sem.run_bind, h1, K.eq]
    simp only [Result.andThen_ok]
    by_cases hx : p.1 = x
    · have : decide (x = p.1) = true := decide_eq_true hx.symm
      simp only [this, if_true, if_pos hx, Sem.run_pure, h2, Option.map_some]
    · have : decide (x = p.1) = false := decide_eq_false (fun e => hx e.symm)
      simp only [this, Bool.false_eq_true, if_false, if_neg hx]
      exact ih
theorem find_now (K : KeyEnc P kt kf) {d : TypeDesc} (hd : ∀ x y, Instr.sameNow d (kf x) (kf y) = some (decide (x = y)) ∨ Instr.sameNow d (kf x) (kf y) = none) (x : α) : ∀ (es : List MapEntry) (l : List (α × β)) (i : Nat), es.map (fun e => (e.key, e.val)) = l.map (fun p => (kf p.1, vf p.2)) →
    Instr.findNow d (kf x) es i = none ∨ Instr.findNow d (kf x) es i = some ((findL x l i).map fun q => (q.1, vf q.2))
  | [], [], i, _ => .inr rfl
  | [], _ :: _, _, h => by simp at h
  | _ :: _, [], _, h => by simp at h
  | e :: es, p :: l, i, h => by
    simp only [List.map_cons, List.cons.injEq, Prod.mk.injEq] at h
    obtain ⟨⟨h1, h2⟩, h3⟩ := h
    have ih := find_now K hd x es l (i + 1) h3
    unfold Instr.findNow findL
    rw [h1]
    rcases hd x p.1 with h4 | h4
    · rw [h4]
      by_cases hx : p.1 = x
      · have : decide (x = p.1) = true := decide_eq_true hx.symm
        rw [this]
        simp [hx, h2]
      · have : decide (x = p.1) = false := decide_eq_false (fun e => hx e.symm)
        rw [this]
        simp only [if_neg hx]
        exact ih
    · rw [h4]
      exact .inl rfl
theorem find_key (K : KeyEnc P kt kf) (x : α) (w : World) (es : List MapEntry) (l : List (α × β)) (h : es.map (fun e => (e.key, e.val)) = l.map (fun p => (kf p.1, vf p.2))) :
    (Instr.findKey kt (kf x) es).run P w = .ok ((findL x l 0).map fun q => (q.1, vf q.2)) w := by
  obtain ⟨d, hd, hn⟩ := K.now
  unfold Instr.findKey
  rw [Sem.run_bind, run_underlying hd]
  simp only [Result.andThen_ok]
  rcases find_now K hn x es l 0 h with h1 | h1
  · rw [h1]
    exact find_asking K x w es l 0 h
  · rw [h1]
    rfl
/-- m[x]. -/
theorem run_get (K : KeyEnc P kt kf) (ht : P.underlying mt = some (.map kt vt)) {z : β} (hz : ∀ w, (zeroValue vt).run P w = .ok (vf z) w) {W : World} {m : Nat} {l : List (α × β)} (h : MapAt kf vf W m l) (x : α) :
    (Instr.lookup mt (.map (some m)) (kf x) false).run P W = .ok (vf ((getM l x).getD z)) W := by
  obtain ⟨es, clock, hb, he, hn⟩ := h
  unfold Instr.lookup
  simp only [Sem.run_bind, run_underlying ht, Result.andThen_ok, MapKept.run_getObj_map hb, Sem.run_pure, K.check, find_key K x W es.toList l he]
  rw [← findL_get x l 0]
  cases findL x l 0 with
  | none => simp [hz, Sem.run_bind]
  | some q => simp [Sem.run_bind]
theorem run_get_ok (K : KeyEnc P kt kf) (ht : P.underlying mt = some (.map kt vt)) {z : β} (hz : ∀ w, (zeroValue vt).run P w = .ok (vf z) w) {W : World} {m : Nat} {l : List (α × β)} (h : MapAt kf vf W m l) (x : α) :
    (Instr.lookup mt (.map (some m)) (kf x) true).run P W = .ok (.tuple #[vf ((getM l x).getD z), .bool (getM l x).isSome]) W := by
  obtain ⟨es, clock, hb, he, hn⟩ := h
  unfold Instr.lookup
  simp only [Sem.run_bind, run_underlying ht, Result.andThen_ok, MapKept.run_getObj_map hb, Sem.run_pure, K.check, find_key K x W es.toList l he]
  rw [← findL_get x l 0]
  cases findL x l 0 with
  | none => simp [hz, Sem.run_bind]
  | some q => simp [Sem.run_bind]
/-- Of the memory that was there, this block alone has turned. -/
structure Turn (m : Nat) (W W' : World) : Prop where
  size : W'.heap.size = W.heap.size
  far : ∀ k, k ≠ m → W'.heap[k]? = W.heap[k]?
  bel : ∀ B w0, B ≤ m → Below B w0 W → Below B w0 W'
theorem turn_set (W : World) (m : Nat) (o : Obj) : Turn m W { W with heap := W.heap.setIfInBounds m o } := by
  have far : ∀ k, k ≠ m → ({ W with heap := W.heap.setIfInBounds m o } : World).heap[k]? = W.heap[k]? := fun k hk => by
    show (W.heap.setIfInBounds m o)[k]? = _
    rw [Array.getElem?_setIfInBounds_ne (Ne.symm hk)]
  refine ⟨by simp, far, fun B w0 hB h => ⟨h.os, h.tape, h.output, by simpa using h.size, fun k hk => ?_⟩⟩
  rw [far k (by omega)]
  exact h.block k hk
theorem findL_none {x : α} : ∀ (l : List (α × β)) (i : Nat), findL x l i = none → x ∉ l.map (·.1)
  | [], _, _ => by simp
  | p :: l, i, h => by
    unfold findL at h
    by_cases hp : p.1 = x
    · simp [hp] at h
    · rw [if_neg hp] at h
      have := findL_none l (i + 1) h
      simp only [List.map_cons, List.mem_cons, not_or]
      exact ⟨fun e => hp e.symm, this⟩
theorem put_new {x : α} {b : β} : ∀ (l : List (α × β)), x ∉ l.map (·.1) → putM l x b = l ++ [(x, b)]
  | [], _ => rfl
  | p :: l, h => by
    simp only [List.map_cons, List.mem_cons, not_or] at h
    unfold putM
    rw [if_neg (fun e => h.1 e.symm), put_new l h.2]
    rfl
theorem findL_some {x : α} {b : β} : ∀ (l : List (α × β)) (i j : Nat) (c : β), findL x l i = some (j, c) → i ≤ j ∧ (∃ p, l[j - i]? = some p ∧ p.1 = x) ∧ putM l x b = l.modify (j - i) fun _ => (x, b)
  | [], _, _, _, h => by simp [findL] at h
  | p :: l, i, j, c, h => by
    unfold findL at h
    unfold putM
    by_cases hp : p.1 = x
    · rw [if_pos hp] at h
      injection h with h
      injection h with h1 h2
      subst h1
      rw [if_pos hp, Nat.sub_self]
      exact ⟨Nat.le_refl _, ⟨p, rfl, hp⟩, rfl⟩
    · rw [if_neg hp] at h
      obtain ⟨h1, ⟨q, h2, h3⟩, h4⟩ := findL_some l (i + 1) j c h
      have e : j - i = (j - (i + 1)) + 1 := by omega
      rw [if_neg hp, e, h4]
      exact ⟨by omega, ⟨q, by simpa using h2, h3⟩, rfl⟩
/-- m[x] = b. -/
theorem run_put (K : KeyEnc P kt kf) (ht : P.underlying mt = some (.map kt vt)) {W : World} {m : Nat} {l : List (α × β)} (h : MapAt kf vf W m l) (x : α) (b : β) :
    ∃ W', (Instr.mapUpdate mt (.map (some m)) (kf x) (vf b)).run P W = .ok () W' ∧ MapAt kf vf W' m (putM l x b) ∧ Turn m W W' := by
  obtain ⟨es, clock, hb, he, hn⟩ := h
  have hml := (Array.getElem?_eq_some_iff.1 hb).1
  have hs : ∀ o, ({ W with heap := W.heap.setIfInBounds m o } : World).heap[m]? = some o := fun o => by
    show (W.heap.setIfInBounds m o)[m]? = _
    rw [Array.getElem?_setIfInBounds_self_of_lt hml]
  unfold Instr.mapUpdate
  simp only [Sem.run_bind, run_underlying ht, Result.andThen_ok, MapKept.run_getObj_map hb, K.check, find_key K x W es.toList l he]
  cases hf : findL x l 0 with
  | none =>
    refine ⟨_, MapKept.run_setObj_map _ hb, ⟨_, _, hs _, ?_, putM_nodup l x b hn⟩, turn_set W m _⟩
    rw [put_new l (findL_none l 0 hf), Array.toList_push, List.map_append, he, List.map_append]
    rfl
  | some q =>
    obtain ⟨j, c⟩ := q
    obtain ⟨_, ⟨p, h2, h3⟩, h4⟩ := findL_some (b := b) l 0 j c hf
    rw [Nat.sub_zero] at h2 h4
    have hje : ∃ e0, es[j]? = some e0 ∧ e0.key = kf x := by
      have h5 := congrArg (fun L => L[j]?) he
      simp only [List.getElem?_map, h2, Option.map_some, Array.getElem?_toList] at h5
      obtain ⟨e0, h6, h7⟩ := Option.map_eq_some_iff.1 h5
      simp only [Prod.mk.injEq] at h7
      exact ⟨e0, h6, h7.1.trans (by rw [h3])⟩
    obtain ⟨e0, h6, h7⟩ := hje
    simp only [Option.map_some, h6, Option.getD_some, h7, Instr.keyThatStays, K.bits, if_true, Sem.run_pure, Result.andThen_ok]
    refine ⟨_, MapKept.run_setObj_map _ hb, ⟨_, _, hs _, ?_, putM_nodup l x b hn⟩, turn_set W m _⟩
    rw [h4]
    apply List.ext_getElem?
    intro k
    have h8 := congrArg (fun L => L[k]?) he
    simp only [List.getElem?_map, Array.getElem?_toList] at h8
    simp only [List.getElem?_map, Array.getElem?_toList, Array.getElem?_modify, List.getElem?_modify]
    by_cases hk : j = k
    · subst hk
      simp [h6, h2]
    · simp only [hk, if_false]
      simpa using h8
omit [DecidableEq α] in
theorem MapAt.make (kf : α → Value) (vf : β → Value) (W : World) : MapAt kf vf (W.alloc (.map #[] 0)) W.heap.size ([] : List (α × β)) := ⟨#[], 0, heap_alloc_new W _, rfl, .nil⟩
omit [DecidableEq α] in
theorem MapAt.below {W W' : World} {m : Nat} {l : List (α × β)} (h : MapAt kf vf W m l) (hb : Below W.heap.size W W') : MapAt kf vf W' m l := by
  obtain ⟨es, clock, h1, h2⟩ := h
  exact ⟨es, clock, (hb.block _ (Array.getElem?_eq_some_iff.1 h1).1).trans h1, h2⟩
omit [DecidableEq α] in
theorem MapAt.keep {W W' : World} {m : Nat} {l : List (α × β)} (h : MapAt kf vf W m l) (hb : W'.heap[m]? = W.heap[m]?) : MapAt kf vf W' m l := by
  obtain ⟨es, clock, h1, h2⟩ := h
  exact ⟨es, clock, hb.trans h1, h2⟩
omit [DecidableEq α] in
theorem MapAt.lt {W : World} {m : Nat} {l : List (α × β)} (h : MapAt kf vf W m l) : m < W.heap.size := by
  obtain ⟨es, clock, h1, h2⟩ := h
  exact (Array.getElem?_eq_some_iff.1 h1).1
omit [DecidableEq α] in
theorem run_len (ht : P.underlying mt = some (.map kt vt)) {W : World} {m : Nat} {l : List (α × β)} (h : MapAt kf vf W m l) (ty : TypeId) : (Builtin.len_ #[mt] ty #[.map (some m)]).run P W = .ok (.int .i64 l.length) W := by
  obtain ⟨es, clock, hb, he, hn⟩ := h
  have hl : es.size = l.length := by
    have := congrArg List.length he
    simpa using this
  unfold Builtin.len_
  simp [Sem.run_bind, run_underlying ht, MapKept.run_getObj_map hb, hl, goInt]
end
end Go.Proofs.Ytndfoohdoadkfaa
