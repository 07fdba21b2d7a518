/- Whole arrays in memory: stored into a block that is known whole. No condition. -/
import Derived.Test.YtndfoohdoadkfaaDrawn
import Derived.Deep.MidRow
import Derived.Laws.Rows
set_option linter.unusedVariables false
set_option linter.unusedSimpArgs false
namespace Go.Proofs.Ytndfoohdoadkfaa
open Go.RowKit
def over (cs : Array Value) : Nat → List Value → Array Value
  | _, [] => cs
  | o, v :: r => over (cs.setIfInBounds o v) (o + 1) r
theorem over_size : ∀ (vs : List Value) (cs : Array Value) (o : Nat), (over cs o vs).size = cs.size
  | [], _, _ => rfl
  | v :: r, cs, o => by
    rw [over, over_size r]
    simp
theorem over_get : ∀ (vs : List Value) (cs : Array Value) (o j : Nat), o + vs.length ≤ cs.size → (over cs o vs)[j]? = if o ≤ j ∧ j < o + vs.length then vs[j - o]? else cs[j]?
  | [], cs, o, j, _ => by
    rw [if_neg (by simp only [List.length_nil]; omega)]
    rfl
  | v :: r, cs, o, j, h => by
    simp only [List.length_cons] at h
    rw [over, over_get r _ _ _ (by simp; omega), List.length_cons]
    by_cases h1 : o + 1 ≤ j ∧ j < o + 1 + r.length
    · rw [if_pos h1, if_pos (by omega), show j - o = (j - (o + 1)) + 1 by omega, List.getElem?_cons_succ]
    · by_cases h2 : j = o
      · subst h2
        rw [if_neg h1, if_pos (by omega), Nat.sub_self, List.getElem?_cons_zero, Array.getElem?_setIfInBounds_self_of_lt (by omega)]
      · rw [if_neg h1, if_neg (by omega)]
        simp [Array.getElem?_setIfInBounds, Ne.symm h2]
theorem over_all (vs cs : Array Value) (h : cs.size = vs.size) : over cs 0 vs.toList = vs := by
  apply Array.ext_getElem?
  intro j
  rw [over_get _ _ _ _ (by simp; omega)]
  simp only [Nat.zero_le, true_and, Nat.zero_add, Array.length_toList, Nat.sub_zero, Array.getElem?_toList]
  split
  · rfl
  · rw [Array.getElem?_eq_none (by omega), Array.getElem?_eq_none (by omega)]
theorem setCells_heap (b : Nat) : ∀ (vs : List Value) (o : Nat) (w : World) (cs : Array Value) (t : TypeId) (fr : Nat × Nat), w.heap[b]? = some (.cells cs t fr) → (w.setCells b o vs).heap[b]? = some (.cells (over cs o vs) t fr)
  | [], _, _, _, _, _, h => h
  | v :: r, o, w, cs, t, fr, h => setCells_heap b r (o + 1) (w.setCell ⟨b, o, none⟩ v) (cs.setIfInBounds o v) t fr (set_same h)
theorem setCells_below (b : Nat) : ∀ (vs : List Value) (o B : Nat) (w0 w : World), B ≤ b → Below B w0 w → Below B w0 (w.setCells b o vs)
  | [], _, _, _, _, _, h => h
  | v :: r, o, B, w0, w, hB, h => setCells_below b r (o + 1) B w0 _ hB (h.setCell (p := ⟨b, o, none⟩) hB v)
theorem setCells_size (b : Nat) : ∀ (vs : List Value) (o : Nat) (w : World), (w.setCells b o vs).heap.size = w.heap.size
  | [], _, _ => rfl
  | v :: r, o, w => (setCells_size b r (o + 1) _).trans (by simp)
theorem setCells_far (b g : Nat) (hne : g ≠ b) : ∀ (vs : List Value) (o : Nat) (w : World), (w.setCells b o vs).heap[g]? = w.heap[g]?
  | [], _, _ => rfl
  | v :: r, o, w => (setCells_far b g hne r (o + 1) _).trans (Below.heap_setCell _ _ _ _ (by simpa using hne))
theorem there_of {w : World} {g n : Nat} {cs : Array Value} {t : TypeId} (h : w.heap[g]? = some (.cells cs t (0, 0))) (hn : cs.size = n) : w.there g 0 n := by
  intro j hj
  rw [Nat.zero_add]
  refine ⟨?_, frozen_of_heap h⟩
  rw [cell_of_heap h (v := cs[j]'(by omega)) (Array.getElem?_eq_getElem (by omega))]
  rfl
/-- A whole array stored into a block that is known whole. -/
theorem wpList_store_whole {P : Program} {ops : Array Oper} {rest : List Oper} {op : Oper} {a : Act} {w : World} {Q : Exit → Act → World → Prop} (hgd : op.guard = none) (ty : TypeId) (x y : Operand) (ho : op.op = .store ty x y)
    (g : Nat) (cells cs0 : Array Value) (t : TypeId) (hx : a.eval x = .pointer (some ⟨g, 0, none⟩)) (hy : a.eval y = .agg cells)
    (hg : w.heap[g]? = some (.cells cs0 t (0, 0))) (hs : cs0.size = cells.size) (hi : (P.info? ty).map (·.size) = some cells.size) (h1 : cells.all (·.oneCell') = true)
    (h : ∀ w1, w1.heap[g]? = some (.cells cells t (0, 0)) → w1.heap.size = w.heap.size → (∀ k, k ≠ g → w1.heap[k]? = w.heap[k]?) → (∀ B w0, B ≤ g → Below B w0 w → Below B w0 w1) → wpList P ops Q rest (a.put op.dst undef) w1) : wpList P ops Q (op :: rest) a w :=
  wpList_store_mid hgd ty x y ho g 0 cells hx hy (there_of hg hs) hi h1
    (h _ (by rw [setCells_heap g _ 0 w cs0 t (0, 0) hg, over_all _ _ hs]) (setCells_size g _ 0 w) (fun k hk => setCells_far g k hk _ 0 w) (fun B w0 hB hb => setCells_below g _ 0 B w0 w hB hb))
theorem wpList_load_on {P : Program} {ops : Array Oper} {rest : List Oper} {o : Oper} {a : Act} {w : World} {Q : Exit → Act → World → Prop} (hw : Region.wanted o (yielded ops a.tmps) = true) (ty : TypeId) (x : Operand) (ho : o.op = .load ty x)
    (g : Nat) (hx : a.eval x = .pointer (some ⟨g, 0, none⟩)) (t : TypeId) (cs : Array Value) (fr : Nat × Nat) (d : TypeDesc) (hg : w.heap[g]? = some (.cells cs t fr))
    (hu : P.underlying ty = some d) (hd : (match d with | .struct _ | .array _ _ => true | _ => false) = true) (hi : (P.info? ty).map (·.size) = some cs.size)
    (h : wpList P ops Q rest (a.put o.dst (.agg cs)) w) : wpList P ops Q (o :: rest) a w := by
  refine wpList_step fun K hK => ?_
  rw [if_pos hw]
  exact wp_load_row ty x ho g hx t cs fr d hg hu hd hi (hK _ _ h)
/-- One cell of a block that is known whole: read, written. -/
theorem wp_load_cell {P : Program} {o : Oper} {a : Act} {w : World} {K : Act → World → Prop} {Q : Exit → Act → World → Prop} (ty : TypeId) (x : Operand) (ho : o.op = .load ty x)
    (g j : Nat) (hx : a.eval x = .pointer (some ⟨g, j, none⟩)) (t : TypeId) (cs : Array Value) (fr : Nat × Nat) (v : Value) (d : TypeDesc) (hg : w.heap[g]? = some (.cells cs t fr)) (hv : cs[j]? = some v)
    (hu : P.underlying ty = some d) (hd : (match d with | .struct _ | .array _ _ => true | _ => false) = false)
    (h : K (a.put o.dst v) w) : o.wp P a w K Q := by
  have hc : w.cell? ⟨g, j, none⟩ = some v := by
    simp only [World.cell?, hg]
    exact hv
  have hagg : (isAgg ty).run P w = .ok false w := by
    unfold isAgg
    rw [Sem.run_bind, run_underlying hu w]
    cases d <;> simp_all
  unfold Oper.wp execOp
  simp only [ho, hx, Instr.loadAt, Instr.sureAddr, Sem.run_bind, Sem.run_pure, Result.andThen_ok, loadVar, hagg, Bool.false_eq_true, if_false]
  simp [hc]
  exact h
theorem wpList_load_cell {P : Program} {ops : Array Oper} {rest : List Oper} {o : Oper} {a : Act} {w : World} {Q : Exit → Act → World → Prop} (hw : Region.wanted o (yielded ops a.tmps) = true) (ty : TypeId) (x : Operand) (ho : o.op = .load ty x)
    (g j : Nat) (hx : a.eval x = .pointer (some ⟨g, j, none⟩)) (t : TypeId) (cs : Array Value) (fr : Nat × Nat) (v : Value) (d : TypeDesc) (hg : w.heap[g]? = some (.cells cs t fr)) (hv : cs[j]? = some v)
    (hu : P.underlying ty = some d) (hd : (match d with | .struct _ | .array _ _ => true | _ => false) = false)
    (h : wpList P ops Q rest (a.put o.dst v) w) : wpList P ops Q (o :: rest) a w := by
  refine wpList_step fun K hK => ?_
  rw [if_pos hw]
  exact wp_load_cell ty x ho g j hx t cs fr v d hg hv hu hd (hK _ _ h)
theorem wp_store_cell {P : Program} {o : Oper} {a : Act} {w : World} {K : Act → World → Prop} {Q : Exit → Act → World → Prop} (ty : TypeId) (x y : Operand) (ho : o.op = .store ty x y)
    (g j : Nat) (hx : a.eval x = .pointer (some ⟨g, j, none⟩)) (v : Value) (hy : a.eval y = v) (t : TypeId) (cs : Array Value) (hg : w.heap[g]? = some (.cells cs t (0, 0))) (hj : j < cs.size)
    (hi : (P.info? ty).map (·.size) = some 1) (h1 : v.cells = #[v]) (h2 : v.oneCell' = true)
    (h : ∀ w1, w1.heap[g]? = some (.cells (cs.setIfInBounds j v) t (0, 0)) → w1.heap.size = w.heap.size → (∀ k, k ≠ g → w1.heap[k]? = w.heap[k]?) → (∀ B w0, B ≤ g → Below B w0 w → Below B w0 w1) → K (a.put o.dst undef) w1) : o.wp P a w K Q := by
  have hc : w.cell? ⟨g, j, none⟩ = some (cs[j]'hj) := by
    simp only [World.cell?, hg]
    exact Array.getElem?_eq_getElem hj
  have hf : w.frozen? ⟨g, j, none⟩ = false := frozen_of_heap hg
  have hk := h (w.setCell ⟨g, j, none⟩ v) (set_same hg) (by simp) (fun k hk => set_ne hk rfl) (fun B w0 hB hb => hb.setCell (p := ⟨g, j, none⟩) hB v)
  cases hq : P.info? ty with
  | none => simp [hq] at hi
  | some i =>
    have hs : i.size = 1 := by simpa [hq] using hi
    unfold Oper.wp execOp
    simp only [ho, hx, hy, Instr.storeAt, Instr.sureAddr, Sem.run_bind, Sem.run_pure, Result.andThen_ok]
    simp [storeVar, sizeOf, typeInfo, hq, hs, h1, storeCells, Addr.add, run_store P w _ v .plain h2, hc, hf]
    exact hk
theorem wpList_store_cell {P : Program} {ops : Array Oper} {rest : List Oper} {o : Oper} {a : Act} {w : World} {Q : Exit → Act → World → Prop} (hw : Region.wanted o (yielded ops a.tmps) = true) (ty : TypeId) (x y : Operand) (ho : o.op = .store ty x y)
    (g j : Nat) (hx : a.eval x = .pointer (some ⟨g, j, none⟩)) (v : Value) (hy : a.eval y = v) (t : TypeId) (cs : Array Value) (hg : w.heap[g]? = some (.cells cs t (0, 0))) (hj : j < cs.size)
    (hi : (P.info? ty).map (·.size) = some 1) (h1 : v.cells = #[v]) (h2 : v.oneCell' = true)
    (h : ∀ w1, w1.heap[g]? = some (.cells (cs.setIfInBounds j v) t (0, 0)) → w1.heap.size = w.heap.size → (∀ k, k ≠ g → w1.heap[k]? = w.heap[k]?) → (∀ B w0, B ≤ g → Below B w0 w → Below B w0 w1) → wpList P ops Q rest (a.put o.dst undef) w1) : wpList P ops Q (o :: rest) a w := by
  refine wpList_step fun K hK => ?_
  rw [if_pos hw]
  exact wp_store_cell ty x y ho g j hx v hy t cs hg hj hi h1 h2 fun w1 k1 k2 k3 k4 => hK _ _ (h w1 k1 k2 k3 k4)
/-- An operation by its run. -/
theorem wp_of_run {P : Program} {o : Oper} {a : Act} {w w1 : World} {K : Act → World → Prop} {Q : Exit → Act → World → Prop} {v : Value} (hrun : (execOp a.eval o).run P w = .ok (.value v) w1) (h : K (a.put o.dst v) w1) : o.wp P a w K Q := by
  unfold Oper.wp
  rw [hrun]
  exact h
theorem wpList_of_run {P : Program} {ops : Array Oper} {rest : List Oper} {o : Oper} {a : Act} {w w1 : World} {Q : Exit → Act → World → Prop} {v : Value} (hgd : o.guard = none) (hrun : (execOp a.eval o).run P w = .ok (.value v) w1) (h : wpList P ops Q rest (a.put o.dst v) w1) : wpList P ops Q (o :: rest) a w :=
  wpList_plain hgd fun K hK => wp_of_run hrun (hK _ _ h)
theorem exec_build {P : Program} {ρ : Operand → Value} {o : Oper} {t : TypeId} {l : List (Nat × Operand)} {v : Value} {w w1 : World} (ho : o.op = .build t l.toArray) (hrun : (Instr.build t (l.map fun p => (p.1, ρ p.2)).toArray).run P w = .ok v w1) : (execOp ρ o).run P w = .ok (.value v) w1 := by
  simp only [execOp, ho, List.map_toArray, Sem.run_bind, hrun, Result.andThen_ok, Sem.run_pure]
theorem exec_buildSlice {P : Program} {ρ : Operand → Value} {o : Oper} {t : TypeId} {n : Nat} {l : List (Nat × Operand)} {v : Value} {w w1 : World} (ho : o.op = .buildSlice t n l.toArray) (hrun : (Instr.buildSlice t n (l.map fun p => (p.1, ρ p.2)).toArray).run P w = .ok v w1) : (execOp ρ o).run P w = .ok (.value v) w1 := by
  simp only [execOp, ho, List.map_toArray, Sem.run_bind, hrun, Result.andThen_ok, Sem.run_pure]
theorem exec_index {P : Program} {ρ : Operand → Value} {o : Oper} {t : TypeId} {x i : Operand} {v : Value} {w w1 : World} (ho : o.op = .index t x i) (hrun : (Instr.index t (ρ x) (ρ i)).run P w = .ok v w1) : (execOp ρ o).run P w = .ok (.value v) w1 := by
  simp only [execOp, ho, Sem.run_bind, hrun, Result.andThen_ok, Sem.run_pure]
theorem heap_new_at {w : World} {o : Obj} {n : Nat} (h : w.heap.size = n) : (w.alloc o).heap[n]? = some o := by
  subst h
  exact heap_alloc_new w o
theorem wanted_of {o : Oper} {ops : Array Oper} {tmps : Array Value} {j : Nat} {b : Bool} {d : Tmp} (hg : o.guard = some (j, b)) (hd : dstOf ops j = some d) (h : tmps[d]? = some (.bool b)) : Region.wanted o (yielded ops tmps) = true := by
  have hd' : (ops[j]?).bind (fun o => o.dst) = some d := hd
  simp [Region.wanted, yielded, hg, hd', h]
theorem unwanted_of {o : Oper} {ops : Array Oper} {tmps : Array Value} {j : Nat} {b : Bool} {d : Tmp} {v : Value} (hg : o.guard = some (j, b)) (hd : dstOf ops j = some d) (h : tmps[d]? = some v) (hv : v ≠ .bool b) : ¬ Region.wanted o (yielded ops tmps) = true := by
  have hd' : (ops[j]?).bind (fun o => o.dst) = some d := hd
  simp only [Region.wanted, yielded, hg, hd', Option.bind_some, h]
  cases v <;> simp_all
end Go.Proofs.Ytndfoohdoadkfaa
