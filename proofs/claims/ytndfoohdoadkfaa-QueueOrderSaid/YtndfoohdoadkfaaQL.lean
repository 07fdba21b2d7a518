/- queue.Merge: all stamps into the pile. -/
import Derived.Test.YtndfoohdoadkfaaQN
set_option linter.unusedVariables false
set_option linter.unusedSimpArgs false
namespace Go.Proofs.Ytndfoohdoadkfaa
open Go.RowKit
structure St where
  t : Int
  r : Int
  deriving DecidableEq
def SS (s : St) : Array Value := #[.int .i64 s.t, .int .i64 s.r]
def toI (s : St) : It := ⟨s.t, s.r, 0⟩
theorem info34 (s : St) : (Try.prog.info? 34).map (·.size) = some (SS s).size := by
  rw [show (SS s).size = 2 from rfl]
  kernel_rfl
theorem cell_below {w w1 : World} (h : Below w.heap.size w w1) {a : Addr} {v : Value} (hc : w.cell? a = some v) : w1.cell? a = some v := (h.cell (World.block_lt_of_cell? w a hc)).trans hc
theorem range_below {w w1 : World} (h : Below w.heap.size w w1) {g o : Nat} {cs : List Value} (hc : w.rangeAt g o cs) : w1.rangeAt g o cs := fun j v hv => cell_below h (hc j v hv)
/-- A row of stamps that is read. -/
def Row2 (W : World) (v : Value) (ss : List St) : Prop := ∃ A c, v = .slice A ss.length c ∧ ss.length ≤ c ∧ (0 < ss.length → ∃ g o, A = some ⟨g, o, none⟩ ∧ ∀ k s, ss[k]? = some s → W.rangeAt g (o + k * 2) (SS s).toList)
def Rows2 (W : World) (v : Value) (ls : List (List St)) : Prop := ∃ A c, v = .slice A ls.length c ∧ ls.length ≤ c ∧ (0 < ls.length → ∃ g o, A = some ⟨g, o, none⟩ ∧ ∀ k ss, ls[k]? = some ss → ∃ u, W.cell? ⟨g, o + k, none⟩ = some u ∧ Row2 W u ss)
theorem Row2.below {W W1 : World} {v : Value} {ss : List St} (h : Row2 W v ss) (hb : Below W.heap.size W W1) : Row2 W1 v ss := by
  obtain ⟨A, c, rfl, hc, h⟩ := h
  exact ⟨A, c, rfl, hc, fun h0 => by obtain ⟨g, o, e, hr⟩ := h h0; exact ⟨g, o, e, fun k s hk => range_below hb (hr k s hk)⟩⟩
theorem Rows2.below {W W1 : World} {v : Value} {ls : List (List St)} (h : Rows2 W v ls) (hb : Below W.heap.size W W1) : Rows2 W1 v ls := by
  obtain ⟨A, c, rfl, hc, h⟩ := h
  exact ⟨A, c, rfl, hc, fun h0 => by obtain ⟨g, o, e, hr⟩ := h h0; exact ⟨g, o, e, fun k s hk => by obtain ⟨u, hu, hR⟩ := hr k s hk; exact ⟨u, cell_below hb hu, hR.below hb⟩⟩⟩
theorem bd40 (s : St) (W : World) : (Instr.build 40 #[(0, .agg (SS s))]).run Try.prog W = .ok (.agg (IS (toI s))) W := by
  kernel_rfl
/-- The pile in that region. -/
def MSb (base b : Nat) (v : Value) (xs : List It) (s : St) (w : World) (k : Nat) (u1 u2 : Value) (W : World) : Prop :=
  match k with
  | 0 => W.heap[b]? = some (.cells #[v] 66 (0, 0)) ∧ W.ownsRow base 40 3 v xs.length (cellsI xs) ∧ Pq base b v w v W
  | 1 => W.heap[b]? = some (.cells #[v] 66 (0, 0)) ∧ W.ownsRow base 40 3 v xs.length (cellsI xs) ∧ Pq base b v w v W ∧ ∃ g5, u1 = .slice (some ⟨g5, 0, none⟩) 1 1 ∧ W.heap[g5]? = some (.cells (IS (toI s)) 40 (0, 0))
  | 2 => W.heap[b]? = some (.cells #[v] 66 (0, 0)) ∧ W.ownsRow base 40 3 u2 (xs ++ [toI s]).length (cellsI (xs ++ [toI s])) ∧ Pq base b v w u2 W
  | _ => PV W base b u2 (xs ++ [toI s]) ∧ Pq base b v w u2 W
theorem MSb.blk {base b : Nat} {v : Value} {xs : List It} {s : St} {w : World} {k : Nat} {u1 u2 : Value} {W : World} (h : MSb base b v xs s w k u1 u2 W) (hk : k ≤ 2) : W.heap[b]? = some (.cells #[v] 66 (0, 0)) := by
  match k, hk, h with
  | 0, _, h => exact h.1
  | 1, _, h => exact h.1
  | 2, _, h => exact h.1
/-- The world in the region that puts a stamp on the pile. -/
def MS2 (base gq b g7 : Nat) (v : Value) (xs : List It) (s : St) (w : World) (k : Nat) (u1 u2 : Value) (W : World) : Prop :=
  W.heap[gq]? = some (.cells #[qp b] 49 (0, 0)) ∧ W.heap[g7]? = some (.cells (SS s) 34 (0, 0)) ∧ MSb base b v xs s w k u1 u2 W
def itemsTo (ls : List (List St)) (i : Nat) (j : Nat) : List It := ((ls.take i).flatten ++ ((ls.getD i []).take j)).map toI
theorem items_row (ls : List (List St)) (i : Nat) (h : i < ls.length) : itemsTo ls i (ls.getD i []).length = itemsTo ls (i + 1) 0 := by
  unfold itemsTo
  rw [List.take_length, List.take_zero, List.append_nil, List.take_succ_eq_append_getElem h, List.flatten_append, List.getD_eq_getElem?_getD, List.getElem?_eq_getElem h]
  simp
theorem items_next (ls : List (List St)) (i j : Nat) (s : St) (h : (ls.getD i [])[j]? = some s) : itemsTo ls i (j + 1) = itemsTo ls i j ++ [toI s] := by
  unfold itemsTo
  have hj := (List.getElem?_eq_some_iff.1 h).1
  have he := (List.getElem?_eq_some_iff.1 h).2
  rw [List.take_succ_eq_append_getElem hj, he, ← List.append_assoc, List.map_append]
  rfl
theorem items_len (ls : List (List St)) (n : Nat) (hn : ls.flatten.length ≤ n) (i j : Nat) (h : i < ls.length) : (itemsTo ls i j).length ≤ n := by
  have e : ls = ls.take i ++ (ls.getD i [] :: ls.drop (i + 1)) := by
    rw [List.getD_eq_getElem?_getD, List.getElem?_eq_getElem h]
    simp
  have h2 : ls.flatten.length = (ls.take i).flatten.length + ((ls.getD i []).length + (ls.drop (i + 1)).flatten.length) := by
    conv => lhs; rw [e]
    simp
  unfold itemsTo
  rw [List.length_map, List.length_append, List.length_take]
  omega
theorem items_all (ls : List (List St)) : itemsTo ls ls.length 0 = ls.flatten.map toI := by
  unfold itemsTo
  rw [List.take_zero, List.append_nil, List.take_length]
def stOf (x : It) : St := ⟨x.t, x.r⟩
def mgL : Nat → List It → List St → List St
  | 0, _, out => out
  | f + 1, xs, out => mgL f (popL xs) (if out.getLast? = some (stOf (at_ xs 0)) then out else out ++ [stOf (at_ xs 0)])
def mergeL (ls : List (List St)) : List St := mgL ls.flatten.length (initL ((ls.flatten.map toI).length / 2) (ls.flatten.map toI)) []
theorem popL_len (xs : List It) : (popL xs).length = xs.length - 1 := by rw [popL, List.length_take, popZ_len]; omega
def cellsS (l : List St) : List Value := l.flatMap fun x => (SS x).toList
theorem cellsS_snoc (l : List St) (x : St) : cellsS (l ++ [x]) = cellsS l ++ (SS x).toList := by simp [cellsS]
theorem cellsS_get : ∀ (l : List St) (k j : Nat) (x : St), l[k]? = some x → j < 2 → (cellsS l)[k * 2 + j]? = (SS x).toList[j]?
  | [], k, j, x, h, _ => by simp at h
  | p :: ps, 0, j, x, h, hj => by
    simp only [List.getElem?_cons_zero, Option.some.injEq] at h
    subst h
    rw [cellsS, List.flatMap_cons, Nat.zero_mul, Nat.zero_add, List.getElem?_append_left (by simpa [SS] using hj)]
  | p :: ps, k + 1, j, x, h, hj => by
    simp only [List.getElem?_cons_succ] at h
    have ih := cellsS_get ps k j x h hj
    rw [cellsS, List.flatMap_cons, List.getElem?_append_right (by simp [SS]; omega)]
    rw [show (SS p).toList.length = 2 from rfl, show (k + 1) * 2 + j - 2 = k * 2 + j by omega]
    exact ih
theorem rowS_range {W : World} {base T g n cap : Nat} {l : List St} {x : St} {k : Nat} (h : W.ownsRow base T 2 (.slice (some ⟨g, 0, none⟩) n cap) n (cellsS l)) (hk : l[k]? = some x) : W.rangeAt g (k * 2) (SS x).toList := by
  intro j v hj
  have hj4 : j < 2 := by
    rcases Nat.lt_or_ge j 2 with h | h
    · exact h
    · rw [List.getElem?_eq_none (by simpa [SS] using h)] at hj
      cases hj
  have := h.cells (g := g) rfl (k * 2 + j) v (by rw [cellsS_get l k j x hk hj4]; exact hj)
  rw [Addr.add_mid] at this
  simpa using this
theorem info34b : (Try.prog.info? 34).map (fun i => (i.zero, i.size, i.bytes)) = some (some (.agg #[.int .i64 0, .int .i64 0]), 2, 16) := by kernel_rfl
theorem eqS_is (p q : St) (W : World) : (Op.equalIn 10000 34 (.agg (SS p)) (.agg (SS q))).run Try.prog W = .ok (decide (p = q)) W := by
  have : (Op.equalIn 10000 34 (.agg (SS p)) (.agg (SS q))).run Try.prog W = .ok (p.t == q.t && p.r == q.r) W := by
    have hu34 := Try.underlying34
    unfold SS
    go_simp
    by_cases h1 : p.t = q.t <;> by_cases h2 : p.r = q.r <;> simp [*]
  rw [this]
  congr 1
  rw [Bool.eq_iff_iff]
  cases p
  cases q
  simp
theorem bs55 (s : St) (W : World) : (Instr.buildSlice 55 1 #[(0, .agg (SS s))]).run Try.prog W = .ok (.slice (some ⟨W.heap.size, 0, none⟩) 1 1) (W.alloc (.cells (SS s) 34)) := by
  kernel_rfl
/-- append of one stamp. -/
theorem app_st {W : World} {base g5 : Nat} {v : Value} {xs : List St} {x : St} (h : W.ownsRow base 34 2 v xs.length (cellsS xs)) (hx : W.heap[g5]? = some (.cells (SS x) 34 (0, 0))) (hb : base ≤ W.heap.size) (hl : xs.length ≤ 2000000) :
    ∃ v' w', (Builtin.append_ #[55, 55] 55 #[v, .slice (some ⟨g5, 0, none⟩) 1 1]).run Try.prog W = .ok v' w' ∧ w'.ownsRow base 34 2 v' (xs ++ [x]).length (cellsS (xs ++ [x])) ∧ W.grownBy w' v.ownBlock ∧ (v'.ownBlock = v.ownBlock ∨ v'.ownBlock = some W.heap.size) := by
  obtain ⟨i0, hi, hzz⟩ := Option.map_eq_some_iff.1 info34b
  simp only [Prod.mk.injEq] at hzz
  obtain ⟨hz0, hz1, hz2⟩ := hzz
  obtain ⟨v', w', h1, h2, h3, h4, h5⟩ := run_append_own_at (P := Try.prog) W base 55 55 34 i0 _ 2 16 Try.underlying55 hi hz0 hz1 hz2 rfl (by omega) v xs.length (cellsS xs) h ⟨g5, 0, none⟩ 1 1 (SS x).toList rfl (World.news_of_block hx)
    (by
      intro u hu
      simp only [SS, List.mem_cons, List.not_mem_nil, or_false] at hu
      rcases hu with rfl | rfl <;> rfl) (by simp only [maxLen]; omega) (by omega) hb
  exact ⟨v', w', h1, by rw [cellsS_snoc]; simpa using h2, h3, h5⟩
theorem wp_append55 {o : Oper} {a : Act} {Q : Exit → Act → World → Prop} {ops : Array Oper} {rest : List Oper} {W W' : World} {v u v' : Value} (hr : (Builtin.append_ #[55, 55] 55 #[v, u]).run Try.prog W = .ok v' W') (hg : o.guard = none) (s x : Operand) (ho : o.op = .call { callee := .builtin .append, args := #[s, x], argTypes := #[55, 55] }) (hty : o.type = 55)
    (hs : a.eval s = v) (hx : a.eval x = u) (h : wpList Try.prog ops Q rest (a.put o.dst v') W') : wpList Try.prog ops Q (o :: rest) a W := by
  refine wpList_plain hg fun K hK => ?_
  unfold Oper.wp execOp
  simp only [ho, hty, resolve, invoke, builtin, Sem.run_bind, Sem.run_pure, Result.andThen_ok, List.map_toArray, List.map_cons, List.map_nil, hs, hx, hr]
  exact hK _ _ h
theorem wp_bs55 {o : Oper} {a : Act} {Q : Exit → Act → World → Prop} {ops : Array Oper} {rest : List Oper} {W : World} (s : St) (hg : o.guard = none) (x : Operand) (ho : o.op = .buildSlice 55 1 #[(0, x)]) (hx : a.eval x = .agg (SS s))
    (h : wpList Try.prog ops Q rest (a.put o.dst (.slice (some ⟨W.heap.size, 0, none⟩) 1 1)) (W.alloc (.cells (SS s) 34))) : wpList Try.prog ops Q (o :: rest) a W :=
  wpList_of_run hg (exec_buildSlice (l := [(0, x)]) ho (by simp only [List.map_cons, List.map_nil, hx]; exact bs55 s W)) h
theorem QV.grow {W W' : World} {base gq b : Nat} {v ov : Value} {xs : List It} {n : Nat} {cs : List Value} (h : QV W base gq b v xs) (ho : W.ownsRow base 34 2 ov n cs) (hg : W.grownBy W' ov.ownBlock) : QV W' base gq b v xs := by
  have key : ∀ (k : Nat) (cells : Array Value) (T : TypeId) (f : Nat × Nat), W.heap[k]? = some (Obj.cells cells T f) → T ≠ 34 → W'.heap[k]? = some (Obj.cells cells T f) := by
    intro k cells T f hk hT
    refine (hg.block k (heap_lt hk) (fun e => ?_)).trans hk
    rcases ho.2 with ⟨rfl, _⟩ | ⟨g, cap, cur, rfl, _, hh, _⟩
    · simp [Value.ownBlock] at e
    · simp only [Value.ownBlock] at e
      injection e with e
      subst e
      rw [hk] at hh
      injection hh with hh
      injection hh with _ hh
      exact hT hh
  refine ⟨key gq _ _ _ h.q (by decide), key b _ _ _ h.pv.blk (by decide), h.pv.row.1, ?_⟩
  rcases h.pv.row.2 with e | ⟨g, cap, cur, rfl, hg', hh, r⟩
  · exact .inl e
  · exact .inr ⟨g, cap, cur, rfl, hg', key g _ _ _ hh (by decide), r⟩
theorem own_far {W W' : World} {base base' b : Nat} {v v' ov : Value} {xs : List It} {n : Nat} {cs : List Value} (ho : W.ownsRow base 34 2 ov n cs) (h : PV W base' b v xs) (hq : Pq base' b v W v' W') : W'.ownsRow base 34 2 ov n cs := by
  refine ⟨ho.1, ?_⟩
  rcases ho.2 with e | ⟨g, cap, cur, rfl, hg, hh, r⟩
  · exact .inl e
  · refine .inr ⟨g, cap, cur, rfl, hg, (hq.far g (heap_lt hh) ?_ ?_).trans hh, r⟩
    · rintro rfl
      have := h.blk
      rw [hh] at this
      injection this with this
      injection this with _ this
      cases this
    · intro e
      rcases h.row.2 with ⟨rfl, _⟩ | ⟨g', cap', cur', rfl, _, hh', _⟩
      · simp [Value.ownBlock] at e
      · simp only [Value.ownBlock] at e
        injection e with e
        subst e
        rw [hh] at hh'
        injection hh' with hh'
        injection hh' with _ hh'
        cases hh'
def pileN (W : World) (b : Nat) : Nat := match W.cell? ⟨b, 0, none⟩ with
  | some (.slice _ n _) => n
  | _ => 0
theorem pileN_is {W : World} {base gq b : Nat} {v : Value} {xs : List It} (h : QV W base gq b v xs) : pileN W b = xs.length := by
  obtain ⟨A, c, rfl, _⟩ := h.pv.shape
  unfold pileN
  rw [show W.cell? ⟨b, 0, none⟩ = some (.slice A xs.length c) from cell_of_heap h.pv.blk (j := 0) rfl]
theorem stamp_range {W : World} {g : Nat} {x : It} (h : W.heap[g]? = some (.cells (IS x) 40 (0, 0))) : W.rangeAt g 0 (SS (stOf x)).toList := by
  intro j v hv
  rcases (show j = 0 ∨ j = 1 by
    have := (List.getElem?_eq_some_iff.1 hv).1
    simp [SS] at this
    omega) with rfl | rfl
  · rw [Nat.zero_add]
    exact cell_of_heap h (j := 0) hv
  · exact cell_of_heap h (j := 1) hv
theorem guard34 (op : BinOp) (x y : Operand) (p q : St) (W : World) : (eqGuard op 34 x y (.agg (SS p)) (.agg (SS q))).run Try.prog W = .ok () W := by
  cases op <;> kernel_rfl
theorem exec_neq34 {ρ : Operand → Value} {o : Oper} {x y : Operand} {t : TypeId} {p q : St} {w : World} (ho : o.op = .binOp .neq 34 x y t) (hx : ρ x = .agg (SS p)) (hy : ρ y = .agg (SS q)) : (execOp ρ o).run Try.prog w = .ok (.value (.bool (!decide (p = q)))) w := by
  have hb : (binOp .neq 34 (.agg (SS p)) (.agg (SS q))).run Try.prog w = .ok (.bool (!decide (p = q))) w := by
    show (do pure (Value.bool (!(← Op.equal 34 (.agg (SS p)) (.agg (SS q))))) : Sem Value).run Try.prog w = _
    have := eqS_is p q w
    simp only [Op.equal, Sem.run_bind]
    rw [show Op.maxDepth = 10000 from rfl, this]
    rfl
  simp only [execOp, ho, hx, hy, Sem.run_bind, guard34, Result.andThen_ok, hb, Sem.run_pure]
theorem exec_neq34s {ρ : Operand → Value} {o : Oper} {x y : Operand} {t : TypeId} {p q : St} {w : World} (ho : o.op = .binOp .neq 34 x y t) (hx : ρ x = .agg (SS p)) (hy : ρ y = .agg (SS q)) (h : p = q) : (execOp ρ o).run Try.prog w = .ok (.value (.bool false)) w := by
  rw [exec_neq34 ho hx hy, decide_eq_true h]
  rfl
theorem exec_neq34d {ρ : Operand → Value} {o : Oper} {x y : Operand} {t : TypeId} {p q : St} {w : World} (ho : o.op = .binOp .neq 34 x y t) (hx : ρ x = .agg (SS p)) (hy : ρ y = .agg (SS q)) (h : decide (p = q) = false) : (execOp ρ o).run Try.prog w = .ok (.value (.bool true)) w := by
  rw [exec_neq34 ho hx hy, h]
  rfl
end Go.Proofs.Ytndfoohdoadkfaa
