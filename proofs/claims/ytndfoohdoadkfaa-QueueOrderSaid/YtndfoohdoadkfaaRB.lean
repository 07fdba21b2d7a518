/- The document's answer: With, Merge. -/
import Derived.Test.YtndfoohdoadkfaaRA
set_option linter.unusedVariables false
set_option linter.unusedSimpArgs false
namespace Go.Proofs.Ytndfoohdoadkfaa
open Go.RowKit
theorem sz34 (w : World) : (sizeOf 34).run Try.prog w = .ok 2 w := by kernel_rfl
theorem sz40 (w : World) : (sizeOf 40).run Try.prog w = .ok 3 w := by kernel_rfl
section
variable {P : Program} {T te size : Nat}
/-- xs[k:] and xs[:k]. -/
theorem run_slice_lo (ht : P.underlying T = some (.slice te)) (hs : ∀ w, (sizeOf te).run P w = .ok size w) (A : Option Addr) (n c k : Nat) (w : World) (hk : k ≤ n) :
    (Instr.slice T (.slice A n c) (some (.int .i64 k)) none none).run P w = .ok (.slice (if c = k then A else A.map (·.add (k * size))) (n - k) (c - k)) w := by
  have h1 : (0 : Int) ≤ (k : Int) ∧ (k : Int) ≤ (n : Int) := by omega
  simp only [Instr.slice, Sem.run_bind, run_underlying ht, Result.andThen_ok, Instr.sliceBounds, Instr.sliceBound, Sem.run_pure, asIntOf, h1, and_self, if_true, hs, Option.isSome_none, Bool.false_eq_true, if_false, Int.toNat_natCast]
theorem run_slice_hi (ht : P.underlying T = some (.slice te)) (hs : ∀ w, (sizeOf te).run P w = .ok size w) (A : Option Addr) (n c k : Nat) (w : World) (hk : k ≤ c) :
    (Instr.slice T (.slice A n c) none (some (.int .i64 k)) none).run P w = .ok (.slice A k c) w := by
  have h1 : (0 : Int) ≤ (k : Int) ∧ (k : Int) ≤ (c : Int) := by omega
  simp only [Instr.slice, Sem.run_bind, run_underlying ht, Result.andThen_ok, Instr.sliceBounds, Instr.sliceBound, Sem.run_pure, asIntOf, h1, and_self, if_true, hs, Option.isSome_none, Bool.false_eq_true, if_false, Int.toNat_natCast]
  congr 2
  split
  · rfl
  · cases A with
    | none => rfl
    | some a => simp [Addr.add]
end
theorem exec_slice_lo {P : Program} {ρ : Operand → Value} {o : Oper} {T te size : Nat} (ht : P.underlying T = some (.slice te)) (hs : ∀ w, (sizeOf te).run P w = .ok size w) {x y : Operand} (ho : o.op = .slice T x (some y) none none) {A : Option Addr} {n c k : Nat} {w : World} (hx : ρ x = .slice A n c) (hy : ρ y = .int .i64 k) (hk : k ≤ n) :
    (execOp ρ o).run P w = .ok (.value (.slice (if c = k then A else A.map (·.add (k * size))) (n - k) (c - k))) w := by
  simp only [execOp, ho, hx, hy, Option.map_some, Option.map_none, Sem.run_bind, Instr.sliceAt, run_underlying ht, run_slice_lo ht hs A n c k w hk, Result.andThen_ok, Sem.run_pure]
theorem exec_slice_hi {P : Program} {ρ : Operand → Value} {o : Oper} {T te size : Nat} (ht : P.underlying T = some (.slice te)) (hs : ∀ w, (sizeOf te).run P w = .ok size w) {x y : Operand} (ho : o.op = .slice T x none (some y) none) {A : Option Addr} {n c k : Nat} {w : World} (hx : ρ x = .slice A n c) (hy : ρ y = .int .i64 k) (hk : k ≤ c) :
    (execOp ρ o).run P w = .ok (.value (.slice A k c)) w := by
  simp only [execOp, ho, hx, hy, Option.map_some, Option.map_none, Sem.run_bind, Instr.sliceAt, run_underlying ht, run_slice_hi ht hs A n c k w hk, Result.andThen_ok, Sem.run_pure]
theorem Row2.take {W : World} {A : Option Addr} {n c : Nat} {xs : List St} (h : Row2 W (.slice A n c) xs) {k : Nat} (hk : k ≤ xs.length) : Row2 W (.slice A k c) (xs.take k) := by
  obtain ⟨A', c', e, hc, hr⟩ := h
  injection e with e1 e2 e3
  subst e1 e3
  have hl : (xs.take k).length = k := by simp; omega
  refine ⟨A, c, by rw [hl], by omega, fun h0 => ?_⟩
  obtain ⟨g, o, e, hr⟩ := hr (by omega)
  refine ⟨g, o, e, fun j s hj => hr j s ?_⟩
  rw [List.getElem?_take] at hj
  split at hj
  · exact hj
  · cases hj
theorem Row2.drop {W : World} {A : Option Addr} {n c : Nat} {xs : List St} (h : Row2 W (.slice A n c) xs) {k : Nat} (hk : k ≤ xs.length) : Row2 W (.slice (if c = k then A else A.map (·.add (k * 2))) (n - k) (c - k)) (xs.drop k) := by
  obtain ⟨A', c', e, hc, hr⟩ := h
  injection e with e1 e2 e3
  subst e1 e2 e3
  have hl : (xs.drop k).length = xs.length - k := by simp
  refine ⟨_, _, by rw [hl], by omega, fun h0 => ?_⟩
  obtain ⟨g, o, e, hr2⟩ := hr (by omega)
  subst e
  refine ⟨g, o + k * 2, by rw [if_neg (by omega), Option.map_some, Addr.add_mid], fun j s hj => ?_⟩
  rw [List.getElem?_drop] at hj
  have := hr2 (k + j) s hj
  rwa [show o + (k + j) * 2 = o + k * 2 + j * 2 by omega] at this
theorem Nz.lo {A : Option Addr} {n c k : Nat} (h : Nz (.slice A n c)) (hk : k ≤ n) : Nz (.slice (if c = k then A else A.map (·.add (k * 2))) (n - k) (c - k)) := by
  rcases h with e | ⟨a, n', c', e⟩
  · injection e with e1 e2 e3
    subst e1 e2 e3
    left
    simp
  · injection e with e1 e2 e3
    subst e1
    right
    split
    · exact ⟨_, _, _, rfl⟩
    · exact ⟨_, _, _, rfl⟩
theorem Nz.hi {A : Option Addr} {n c k : Nat} (h : Nz (.slice A n c)) (hk : k ≤ c) : Nz (.slice A k c) := by
  rcases h with e | ⟨a, n', c', e⟩
  · injection e with e1 e2 e3
    subst e1 e2 e3
    left
    obtain rfl : k = 0 := by omega
    rfl
  · injection e with e1 e2 e3
    subst e1
    exact .inr ⟨_, _, _, rfl⟩
theorem nz_own {W : World} {base T size n : Nat} {v : Value} {l : List Value} (h : W.ownsRow base T size v n l) : Nz v := by
  rcases h.2 with ⟨e, _⟩ | ⟨g, c, cur, e, _⟩
  · exact .inl e
  · exact .inr ⟨_, _, _, e⟩
noncomputable def withL (xs : List St) (s : St) : List St := if fnd xs s = true then xs else xs.take (plc xs s) ++ [s] ++ xs.drop (plc xs s)
theorem withL_len (xs : List St) (s : St) : (withL xs s).length ≤ xs.length + 1 := by
  unfold withL
  split
  · omega
  · simp
    omega
/-- The world in With's last statement: how far the new row is, and where the one stamp's block lies. -/
def MW (base : Nat) (ys : List St) (s : St) (st : Nat) (v : Value) (d : Option Nat) (W : World) : Prop :=
  (st = 0 ∨ st = 1 ∧ W.ownsRow base 34 2 v ([] : List St).length (cellsS []) ∨ st = 2 ∧ W.ownsRow base 34 2 v ys.length (cellsS ys)) ∧ base ≤ W.heap.size ∧ (∀ g, d = some g → W.heap[g]? = some (.cells (SS s) 34 (0, 0)) ∧ (st ≠ 0 → v.ownBlock ≠ some g))
theorem MW.up {base : Nat} {ys : List St} {s : St} {st : Nat} {v : Value} {d : Option Nat} {W W' : World} (h : MW base ys s st v d W) (hb : Gr W W') : MW base ys s st v d W' := by
  obtain ⟨h1, h2, h3⟩ := h
  refine ⟨?_, Nat.le_trans h2 hb.size, fun g e => ⟨(hb.block _ (heap_lt (h3 g e).1)).trans (h3 g e).1, (h3 g e).2⟩⟩
  rcases h1 with h | ⟨h, k⟩ | ⟨h, k⟩
  · exact .inl h
  · exact .inr (.inl ⟨h, pw_own_below k hb⟩)
  · exact .inr (.inr ⟨h, pw_own_below k hb⟩)
theorem MW.one {base : Nat} {ys : List St} {s : St} {d : Option Nat} {W : World} {v : Value} (h : MW base ys s 0 v d W) : MW base ys s 1 (.slice (some ⟨W.heap.size, 0, none⟩) 0 0) d (W.alloc (.cells #[] 34)) := by
  obtain ⟨h1, h2, h3⟩ := h
  refine ⟨.inr (.inl ⟨rfl, own_emptyS W base h2⟩), by simp; omega, fun g e => ?_⟩
  have hg := (h3 g e).1
  refine ⟨((below_alloc (Below.refl _ _) _).block _ (heap_lt hg)).trans hg, fun _ he => ?_⟩
  have he' : W.heap.size = g := by simpa [Value.ownBlock] using he
  have := heap_lt hg
  omega
theorem MW.blk {base : Nat} {ys : List St} {s : St} {st : Nat} {W : World} {v : Value} (h : MW base ys s st v none W) : MW base ys s st v (some W.heap.size) (W.alloc (.cells (SS s) 34)) := by
  have hb := below_alloc (Below.refl W.heap.size W) (.cells (SS s) 34)
  obtain ⟨h1, h2, h3⟩ := h.up hb
  refine ⟨h1, h2, fun g e => ?_⟩
  injection e with e
  subst e
  refine ⟨heap_alloc_new W _, fun h0 he => ?_⟩
  obtain ⟨k1, _, _⟩ := h
  rcases k1 with k | ⟨_, k⟩ | ⟨_, k⟩
  · exact h0 k
  · have := (own_lt k _ he).2
    omega
  · have := (own_lt k _ he).2
    omega
/-- append(.., row...): the row read does not hang on the one that grows. -/
theorem MW.app {base : Nat} {ys : List St} {s : St} {W : World} {v u : Value} {d : Option Nat} (h : MW base ys s 1 v d W) (r : Row2 W u ys) (nz : Nz u) (hl : ys.length ≤ 1000000) :
    ∃ v' W', (Builtin.append_ #[55, 55] 55 #[v, u]).run Try.prog W = .ok v' W' ∧ MW base ys s 2 v' d W' ∧ ∀ w0 : World, w0.heap.size ≤ base → Below w0.heap.size w0 W → Below w0.heap.size w0 W' := by
  obtain ⟨h1, h2, h3⟩ := h
  rcases h1 with k | ⟨_, k⟩ | ⟨k, _⟩
  · cases k
  · obtain ⟨v', W', r1, r2, r3, r4⟩ := app_rows k r nz h2 (by simp) hl
    have hb := (Below.refl base W).grown r3 h2 (fun q hq => (own_lt k q hq).1)
    refine ⟨v', W', r1, ⟨.inr (.inr ⟨rfl, by simpa using r2⟩), Nat.le_trans h2 hb.size, fun g e => ?_⟩, fun w0 hw hB => hB.grown r3 (Nat.le_trans hw h2) (fun q hq => Nat.le_trans hw (own_lt k q hq).1)⟩
    have hg := (h3 g e).1
    refine ⟨(r3.block g (heap_lt hg) (fun he => (h3 g e).2 (by simp) he.symm)).trans hg, fun _ he => ?_⟩
    rcases r4 with r4 | r4
    · exact (h3 g e).2 (by simp) (by rw [← r4]; exact he)
    · rw [he] at r4
      injection r4 with r4
      have := heap_lt hg
      omega
  · cases k
/-- The one stamp. -/
theorem MW.app2 {base : Nat} {ys : List St} {s : St} {W : World} {v : Value} {g : Nat} (h : MW base ys s 2 v (some g) W) (hl : ys.length ≤ 1000000) :
    ∃ v' W', (Builtin.append_ #[55, 55] 55 #[v, .slice (some ⟨g, 0, none⟩) 1 1]).run Try.prog W = .ok v' W' ∧ W'.ownsRow base 34 2 v' (ys ++ [s]).length (cellsS (ys ++ [s])) ∧ ∀ w0 : World, w0.heap.size ≤ base → Below w0.heap.size w0 W → Below w0.heap.size w0 W' := by
  obtain ⟨h1, h2, h3⟩ := h
  rcases h1 with k | ⟨k, _⟩ | ⟨_, k⟩
  · cases k
  · cases k
  · have hg := (h3 g rfl).1
    have r : Row2 W (.slice (some ⟨g, 0, none⟩) 1 1) [s] := ⟨_, _, rfl, Nat.le_refl _, fun _ => ⟨g, 0, rfl, fun q t hq => by
      rcases q with _ | q
      · injection hq with hq
        subst hq
        exact range_of_heap hg _ _ (fun j v hv => by simpa using hv)
      · simp at hq⟩⟩
    obtain ⟨v', W', r1, r2, r3, r4⟩ := app_rows k r (.inr ⟨_, _, _, rfl⟩) h2 hl (by simp)
    exact ⟨v', W', r1, r2, fun w0 hw hB => hB.grown r3 (Nat.le_trans hw h2) (fun q hq => Nat.le_trans hw (own_lt k q hq).1)⟩
set_option maxRecDepth 10000 in
set_option maxHeartbeats 4000000 in
theorem with_any (base : Nat) (v : Value) (l : List St) (s : St) (w : World) (h : w.ownsRow base 34 2 v l.length (cellsS l)) (hb : base ≤ w.heap.size) (hl : l.length ≤ 100000) :
    Calls Try.prog 37 #[v, .agg (SS s)] w fun e w' => ∃ v', e = .returned v' ∧ w'.ownsRow base 34 2 v' (withL l s).length (cellsS (withL l s)) ∧ Below w.heap.size w w' := by
  have HO := Lib.hid h
  have H := Lib.hid (row_of_own h)
  have HZz := Lib.hid (nz_own h)
  obtain ⟨A, c, e, k1, r1⟩ := row_of_own h
  subst e
  obtain ⟨N, hN⟩ : ∃ N, N = l.length := ⟨_, rfl⟩
  have HN := Lib.hid hN
  have R1 := Lib.hid r1
  rw [← hN] at k1 hl H HZz ⊢
  clear hN r1 h
  have hb' := Lib.hid hb
  go_enter Try.func37, Try.ntmps37
  go_wp2
  obtain ⟨W0, hW0⟩ : ∃ W0, W0 = w.alloc (.cells (SS s) 34) := ⟨_, rfl⟩
  have HB0 := Lib.hid (show Below w.heap.size w W0 from by rw [hW0]; exact below_alloc (Below.refl _ _) _)
  have HC := Lib.hid (show W0.rangeAt w.heap.size 0 (SS s).toList from by rw [hW0]; exact range_of_heap (heap_alloc_new w _) _ _ (fun j v hv => by simpa using hv))
  rw [← hW0]
  clear hW0
  go_loopw [5] (fun t wr => ∃ (i : Nat), t = .int .i64 i ∧ i ≤ N ∧ Hid (∀ k a, k < i → l[k]? = some a → cmpS (toI a) (toI s) < 0) ∧ Hid (Below W0.heap.size W0 wr)) (fun t _ => N - (intOf t).toNat)
  case atStart => exact ⟨0, rfl, by omega, Lib.hid (fun k a hk => absurd hk (by omega)), Lib.hid (Below.refl _ _)⟩
  case round =>
    obtain ⟨i, rfl, hi, HT, HB⟩ := hrel
    have HBw := Lib.hid (bel HB0.out HB.out)
    by_cases q2 : i < N
    · obtain ⟨g, o, rfl, r1⟩ := R1.out (by rw [← HN.out]; omega)
      obtain ⟨a, ha⟩ : ∃ a, l[i]? = some a := ⟨_, List.getElem?_eq_getElem (by rw [← HN.out]; omega)⟩
      have HX := Lib.hid (range_below HB0.out (r1 i a ha))
      have HA := Lib.hid ha
      obtain ⟨z, hz⟩ : ∃ z, cmpS (toI a) (toI s) = z := ⟨_, rfl⟩
      have HZ := Lib.hid hz
      clear r1 ha hz hi
      have q3 : (i : Int) < N := by omega
      go_wp2
      refine run_region (fn := Try.f37) (id := 2) (n := 13) [] (Bw W0) Gr (by kernel_rfl) (by kernel_rfl) (by kernel_rfl) (by kernel_rfl) Gr.refl (fun _ _ _ => Gr.trans) (fun _ _ h k => bel h k) ?_
      intro Q' hQ' hX
      have hI : (Bw W0) _ := below_drew1 HB.out
      refine c_val hX (v := ?_) 0 ({ dst := some 6, op := Go.Op.move (Go.Operand.tmp 5), type := 3, pos := "ref.go:87", after := #[], guard := none }) hI (by kernel_rfl) (by kernel_rfl) rfl ?_ ?_
      rotate_left
      · intro bA hb W hI KR hKR
        have e5 := hb 5
        simp only [List.getElem?_toArray, List.getElem?_cons_succ, List.getElem?_cons_zero] at e5
        clear hb
        go_simp
        exact hKR _ (Gr.refl _)
      (try simp only [Act.put, List.setIfInBounds_toArray, List.set_cons_zero, List.set_cons_succ])
      refine c_val hX (v := ?_) 1 ({ dst := some 7, op := Go.Op.move (Go.Operand.tmp 0), type := 55, pos := "ref.go:87", after := #[], guard := none }) hI (by kernel_rfl) (by kernel_rfl) rfl ?_ ?_
      rotate_left
      · intro bA hb W hI KR hKR
        have e0 := hb 0
        simp only [List.getElem?_toArray, List.getElem?_cons_succ, List.getElem?_cons_zero] at e0
        clear hb
        go_simp
        exact hKR _ (Gr.refl _)
      (try simp only [Act.put, List.setIfInBounds_toArray, List.set_cons_zero, List.set_cons_succ])
      refine c_val hX (v := ?_) 2 ({ dst := some 8, op := Go.Op.call { callee := Go.Callee.builtin Go.Builtin.len, args := #[Go.Operand.tmp 7], argTypes := #[55] }, type := 3, pos := "ref.go:87", after := #[{ on := 1, ground := Go.Ground.data }], guard := none }) hI (by kernel_rfl) (by kernel_rfl) rfl ?_ ?_
      rotate_left
      · intro bA hb W hI KR hKR
        have e7 := hb 7
        simp only [List.getElem?_toArray, List.getElem?_cons_succ, List.getElem?_cons_zero] at e7
        clear hb
        go_simp
        exact hKR _ (Gr.refl _)
      (try simp only [Act.put, List.setIfInBounds_toArray, List.set_cons_zero, List.set_cons_succ])
      refine c_val hX (v := ?_) 3 ({ dst := some 9, op := Go.Op.binOp Go.BinOp.lss 3 (Go.Operand.tmp 6) (Go.Operand.tmp 8) 3, type := 4, pos := "ref.go:87", after := #[{ on := 0, ground := Go.Ground.data }, { on := 2, ground := Go.Ground.data }], guard := none }) hI (by kernel_rfl) (by kernel_rfl) rfl ?_ ?_
      rotate_left
      · intro bA hb W hI KR hKR
        have e6 := hb 6
        have e8 := hb 8
        simp only [List.getElem?_toArray, List.getElem?_cons_succ, List.getElem?_cons_zero] at e6 e8
        clear hb
        go_simp
        exact hKR _ (Gr.refl _)
      (try simp only [Act.put, List.setIfInBounds_toArray, List.set_cons_zero, List.set_cons_succ])
      refine c_val hX (v := ?_) 4 ({ dst := some 10, op := Go.Op.move (Go.Operand.tmp 9), type := 4, pos := "ref.go:87", after := #[{ on := 3, ground := Go.Ground.data }], guard := none }) hI (by kernel_rfl) (by kernel_rfl) rfl ?_ ?_
      rotate_left
      · intro bA hb W hI KR hKR
        have e9 := hb 9
        simp only [List.getElem?_toArray, List.getElem?_cons_succ, List.getElem?_cons_zero] at e9
        clear hb
        go_simp
        exact hKR _ (Gr.refl _)
      (try simp only [Act.put, List.setIfInBounds_toArray, List.set_cons_zero, List.set_cons_succ])
      refine c_val hX (v := ?_) 5 ({ dst := some 11, op := Go.Op.move (Go.Operand.tmp 0), type := 55, pos := "ref.go:87", after := #[{ on := 4, ground := Go.Ground.guard }], guard := some (4, true) }) hI (by kernel_rfl) (by kernel_rfl) (wanted_of (j := 4) (d := 10) rfl (by kernel_rfl) rfl) ?_ ?_
      rotate_left
      · intro bA hb W hI KR hKR
        have e0 := hb 0
        simp only [List.getElem?_toArray, List.getElem?_cons_succ, List.getElem?_cons_zero] at e0
        clear hb
        go_simp
        exact hKR _ (Gr.refl _)
      (try simp only [Act.put, List.setIfInBounds_toArray, List.set_cons_zero, List.set_cons_succ])
      refine c_val hX (v := ?_) 6 ({ dst := some 12, op := Go.Op.move (Go.Operand.tmp 5), type := 3, pos := "ref.go:87", after := #[{ on := 4, ground := Go.Ground.guard }], guard := some (4, true) }) hI (by kernel_rfl) (by kernel_rfl) (wanted_of (j := 4) (d := 10) rfl (by kernel_rfl) rfl) ?_ ?_
      rotate_left
      · intro bA hb W hI KR hKR
        have e5 := hb 5
        simp only [List.getElem?_toArray, List.getElem?_cons_succ, List.getElem?_cons_zero] at e5
        clear hb
        go_simp
        exact hKR _ (Gr.refl _)
      (try simp only [Act.put, List.setIfInBounds_toArray, List.set_cons_zero, List.set_cons_succ])
      refine c_val hX (v := ?_) 7 ({ dst := some 13, op := Go.Op.indexAddr 55 (Go.Operand.tmp 11) (Go.Operand.tmp 12), type := 0, pos := "ref.go:87", after := #[{ on := 5, ground := Go.Ground.data }, { on := 6, ground := Go.Ground.data }, { on := 4, ground := Go.Ground.guard }], guard := some (4, true) }) hI (by kernel_rfl) (by kernel_rfl) (wanted_of (j := 4) (d := 10) rfl (by kernel_rfl) rfl) ?_ ?_
      rotate_left
      · intro bA hb W hI KR hKR
        have e11 := hb 11
        have e12 := hb 12
        simp only [List.getElem?_toArray, List.getElem?_cons_succ, List.getElem?_cons_zero] at e11 e12
        clear hb
        go_simp
        exact hKR _ (Gr.refl _)
      (try simp only [Act.put, List.setIfInBounds_toArray, List.set_cons_zero, List.set_cons_succ])
      refine c_val hX (v := ?_) 8 ({ dst := some 14, op := Go.Op.load 34 (Go.Operand.tmp 13), type := 34, pos := "ref.go:87", after := #[{ on := 7, ground := Go.Ground.data }, { on := 4, ground := Go.Ground.guard }], guard := some (4, true) }) hI (by kernel_rfl) (by kernel_rfl) (wanted_of (j := 4) (d := 10) rfl (by kernel_rfl) rfl) ?_ ?_
      rotate_left
      · intro bA hb W hI KR hKR
        have e13 := hb 13
        simp only [List.getElem?_toArray, List.getElem?_cons_succ, List.getElem?_cons_zero] at e13
        clear hb
        refine wp_load_mid 34 (.tmp 13) rfl g (o + i * 2) (by simp [Act.eval, e13]) (SS a).toList _ (range_below hI HX.out) Try.underlying34 rfl (info34 _) ?_
        exact hKR _ (hX.refl _)
      (try simp only [Act.put, List.setIfInBounds_toArray, List.set_cons_zero, List.set_cons_succ])
      refine c_val hX (v := ?_) 9 ({ dst := some 15, op := Go.Op.load 34 (Go.Operand.tmp 3), type := 34, pos := "ref.go:87", after := #[{ on := 4, ground := Go.Ground.guard }], guard := some (4, true) }) hI (by kernel_rfl) (by kernel_rfl) (wanted_of (j := 4) (d := 10) rfl (by kernel_rfl) rfl) ?_ ?_
      rotate_left
      · intro bA hb W hI KR hKR
        have e3 := hb 3
        simp only [List.getElem?_toArray, List.getElem?_cons_succ, List.getElem?_cons_zero] at e3
        clear hb
        refine wp_load_mid 34 (.tmp 3) rfl w.heap.size (0) (by simp [Act.eval, e3]) (SS s).toList _ (range_below hI HC.out) Try.underlying34 rfl (info34 _) ?_
        exact hKR _ (hX.refl _)
      (try simp only [Act.put, List.setIfInBounds_toArray, List.set_cons_zero, List.set_cons_succ])
      refine c_val hX (v := ?_) 10 ({ dst := some 16, op := Go.Op.call { callee := Go.Callee.value (Go.Operand.func 39), args := #[Go.Operand.tmp 14, Go.Operand.tmp 15], argTypes := #[34, 34] }, type := 3, pos := "ref.go:87", after := #[{ on := 8, ground := Go.Ground.data }, { on := 9, ground := Go.Ground.data }, { on := 4, ground := Go.Ground.chain }, { on := 4, ground := Go.Ground.guard }], guard := some (4, true) }) hI (by kernel_rfl) (by kernel_rfl) (wanted_of (j := 4) (d := 10) rfl (by kernel_rfl) rfl) ?_ ?_
      rotate_left
      · intro bA hb W hI KR hKR
        have e14 := hb 14
        have e15 := hb 15
        simp only [List.getElem?_toArray, List.getElem?_cons_succ, List.getElem?_cons_zero] at e14 e15
        clear hb
        go_simp
        go_at_call 39
        refine (rcmp_any (toI a) (toI s) _).mono ?_
        rintro e w1 ⟨rfl, hb⟩
        rw [HZ.out]
        exact hKR _ hb
      (try simp only [Act.put, List.setIfInBounds_toArray, List.set_cons_zero, List.set_cons_succ])
      refine c_val hX (v := ?_) 11 ({ dst := some 17, op := Go.Op.binOp Go.BinOp.lss 3 (Go.Operand.tmp 16) (Go.Operand.const (Go.Value.int Go.IntKind.i64 0)) 3, type := 4, pos := "ref.go:87", after := #[{ on := 10, ground := Go.Ground.data }, { on := 4, ground := Go.Ground.guard }], guard := some (4, true) }) hI (by kernel_rfl) (by kernel_rfl) (wanted_of (j := 4) (d := 10) rfl (by kernel_rfl) rfl) ?_ ?_
      rotate_left
      · intro bA hb W hI KR hKR
        have e16 := hb 16
        simp only [List.getElem?_toArray, List.getElem?_cons_succ, List.getElem?_cons_zero] at e16
        clear hb
        go_simp
        exact hKR _ (Gr.refl _)
      (try simp only [Act.put, List.setIfInBounds_toArray, List.set_cons_zero, List.set_cons_succ])
      refine c_val hX (v := ?_) 12 ({ dst := some 18, op := Go.Op.pick (Go.Operand.tmp 10) (Go.Operand.tmp 17) (Go.Operand.const (Go.Value.bool false)), type := 4, pos := "ref.go:87", after := #[{ on := 4, ground := Go.Ground.data }, { on := 11, ground := Go.Ground.data }], guard := none }) hI (by kernel_rfl) (by kernel_rfl) rfl ?_ ?_
      rotate_left
      · intro bA hb W hI KR hKR
        have e10 := hb 10
        have e17 := hb 17
        simp only [List.getElem?_toArray, List.getElem?_cons_succ, List.getElem?_cons_zero] at e10 e17
        clear hb
        go_simp
        exact hKR _ (Gr.refl _)
      (try simp only [Act.put, List.setIfInBounds_toArray, List.set_cons_zero, List.set_cons_succ])
      refine c_done (by kernel_rfl) ?_
      intro w2 hW
      refine hQ' _ _ ?_
      have hI := hX.keep hI hW
      clear hQ' hX hW
      by_cases hz : z < 0
      · go_wp2
        go_roundw
        case rel =>
          refine ⟨i + 1, by go_num, by omega, Lib.hid (fun k x hk hx => ?_), Lib.hid hI⟩
          rcases Nat.lt_or_ge k i with h | h
          · exact HT.out k x h hx
          · obtain rfl : k = i := by omega
            have e1 := HA.out
            rw [hx] at e1
            injection e1 with e1
            subst e1
            rw [HZ.out]
            exact hz
        case measure =>
          simp [intOf]
          omega
      · have hp : plc l s = i := plc_is l s i (by rw [← HN.out]; omega) HT.out (fun x hx => by
          have e1 := HA.out
          rw [hx] at e1
          injection e1 with e1
          subst e1
          rw [HZ.out]
          exact hz)
        have hfn : fnd l s = decide (a = s) := by
          unfold fnd
          rw [hp, HA.out]
          simp
        have HP := Lib.hid hp
        have HF := Lib.hid hfn
        clear hp hfn
        have HI := Lib.hid hI
        go_wp2
        refine run_region (fn := Try.f37) (id := 4) (n := 12) [] (Bw W0) Gr (by kernel_rfl) (by kernel_rfl) (by kernel_rfl) (by kernel_rfl) Gr.refl (fun _ _ _ => Gr.trans) (fun _ _ h k => bel h k) ?_
        intro Q' hQ' hX
        have hI : (Bw W0) _ := below_drew1 HI.out
        refine c_val hX (v := ?_) 0 ({ dst := some 21, op := Go.Op.move (Go.Operand.tmp 5), type := 3, pos := "ref.go:90", after := #[], guard := none }) hI (by kernel_rfl) (by kernel_rfl) rfl ?_ ?_
        rotate_left
        · intro bA hb W hI KR hKR
          have e5 := hb 5
          simp only [List.getElem?_toArray, List.getElem?_cons_succ, List.getElem?_cons_zero] at e5
          clear hb
          go_simp
          exact hKR _ (Gr.refl _)
        (try simp only [Act.put, List.setIfInBounds_toArray, List.set_cons_zero, List.set_cons_succ])
        refine c_val hX (v := ?_) 1 ({ dst := some 22, op := Go.Op.move (Go.Operand.tmp 0), type := 55, pos := "ref.go:90", after := #[], guard := none }) hI (by kernel_rfl) (by kernel_rfl) rfl ?_ ?_
        rotate_left
        · intro bA hb W hI KR hKR
          have e0 := hb 0
          simp only [List.getElem?_toArray, List.getElem?_cons_succ, List.getElem?_cons_zero] at e0
          clear hb
          go_simp
          exact hKR _ (Gr.refl _)
        (try simp only [Act.put, List.setIfInBounds_toArray, List.set_cons_zero, List.set_cons_succ])
        refine c_val hX (v := ?_) 2 ({ dst := some 23, op := Go.Op.call { callee := Go.Callee.builtin Go.Builtin.len, args := #[Go.Operand.tmp 22], argTypes := #[55] }, type := 3, pos := "ref.go:90", after := #[{ on := 1, ground := Go.Ground.data }], guard := none }) hI (by kernel_rfl) (by kernel_rfl) rfl ?_ ?_
        rotate_left
        · intro bA hb W hI KR hKR
          have e22 := hb 22
          simp only [List.getElem?_toArray, List.getElem?_cons_succ, List.getElem?_cons_zero] at e22
          clear hb
          go_simp
          exact hKR _ (Gr.refl _)
        (try simp only [Act.put, List.setIfInBounds_toArray, List.set_cons_zero, List.set_cons_succ])
        refine c_val hX (v := ?_) 3 ({ dst := some 24, op := Go.Op.binOp Go.BinOp.lss 3 (Go.Operand.tmp 21) (Go.Operand.tmp 23) 3, type := 4, pos := "ref.go:90", after := #[{ on := 0, ground := Go.Ground.data }, { on := 2, ground := Go.Ground.data }], guard := none }) hI (by kernel_rfl) (by kernel_rfl) rfl ?_ ?_
        rotate_left
        · intro bA hb W hI KR hKR
          have e21 := hb 21
          have e23 := hb 23
          simp only [List.getElem?_toArray, List.getElem?_cons_succ, List.getElem?_cons_zero] at e21 e23
          clear hb
          go_simp
          exact hKR _ (Gr.refl _)
        (try simp only [Act.put, List.setIfInBounds_toArray, List.set_cons_zero, List.set_cons_succ])
        refine c_val hX (v := ?_) 4 ({ dst := some 25, op := Go.Op.move (Go.Operand.tmp 24), type := 4, pos := "ref.go:90", after := #[{ on := 3, ground := Go.Ground.data }], guard := none }) hI (by kernel_rfl) (by kernel_rfl) rfl ?_ ?_
        rotate_left
        · intro bA hb W hI KR hKR
          have e24 := hb 24
          simp only [List.getElem?_toArray, List.getElem?_cons_succ, List.getElem?_cons_zero] at e24
          clear hb
          go_simp
          exact hKR _ (Gr.refl _)
        (try simp only [Act.put, List.setIfInBounds_toArray, List.set_cons_zero, List.set_cons_succ])
        refine c_val hX (v := ?_) 5 ({ dst := some 26, op := Go.Op.move (Go.Operand.tmp 0), type := 55, pos := "ref.go:90", after := #[{ on := 4, ground := Go.Ground.guard }], guard := some (4, true) }) hI (by kernel_rfl) (by kernel_rfl) (wanted_of (j := 4) (d := 25) rfl (by kernel_rfl) rfl) ?_ ?_
        rotate_left
        · intro bA hb W hI KR hKR
          have e0 := hb 0
          simp only [List.getElem?_toArray, List.getElem?_cons_succ, List.getElem?_cons_zero] at e0
          clear hb
          go_simp
          exact hKR _ (Gr.refl _)
        (try simp only [Act.put, List.setIfInBounds_toArray, List.set_cons_zero, List.set_cons_succ])
        refine c_val hX (v := ?_) 6 ({ dst := some 27, op := Go.Op.move (Go.Operand.tmp 5), type := 3, pos := "ref.go:90", after := #[{ on := 4, ground := Go.Ground.guard }], guard := some (4, true) }) hI (by kernel_rfl) (by kernel_rfl) (wanted_of (j := 4) (d := 25) rfl (by kernel_rfl) rfl) ?_ ?_
        rotate_left
        · intro bA hb W hI KR hKR
          have e5 := hb 5
          simp only [List.getElem?_toArray, List.getElem?_cons_succ, List.getElem?_cons_zero] at e5
          clear hb
          go_simp
          exact hKR _ (Gr.refl _)
        (try simp only [Act.put, List.setIfInBounds_toArray, List.set_cons_zero, List.set_cons_succ])
        refine c_val hX (v := ?_) 7 ({ dst := some 28, op := Go.Op.indexAddr 55 (Go.Operand.tmp 26) (Go.Operand.tmp 27), type := 0, pos := "ref.go:90", after := #[{ on := 5, ground := Go.Ground.data }, { on := 6, ground := Go.Ground.data }, { on := 4, ground := Go.Ground.guard }], guard := some (4, true) }) hI (by kernel_rfl) (by kernel_rfl) (wanted_of (j := 4) (d := 25) rfl (by kernel_rfl) rfl) ?_ ?_
        rotate_left
        · intro bA hb W hI KR hKR
          have e26 := hb 26
          have e27 := hb 27
          simp only [List.getElem?_toArray, List.getElem?_cons_succ, List.getElem?_cons_zero] at e26 e27
          clear hb
          go_simp
          exact hKR _ (Gr.refl _)
        (try simp only [Act.put, List.setIfInBounds_toArray, List.set_cons_zero, List.set_cons_succ])
        refine c_val hX (v := ?_) 8 ({ dst := some 29, op := Go.Op.load 34 (Go.Operand.tmp 28), type := 34, pos := "ref.go:90", after := #[{ on := 7, ground := Go.Ground.data }, { on := 4, ground := Go.Ground.guard }], guard := some (4, true) }) hI (by kernel_rfl) (by kernel_rfl) (wanted_of (j := 4) (d := 25) rfl (by kernel_rfl) rfl) ?_ ?_
        rotate_left
        · intro bA hb W hI KR hKR
          have e28 := hb 28
          simp only [List.getElem?_toArray, List.getElem?_cons_succ, List.getElem?_cons_zero] at e28
          clear hb
          refine wp_load_mid 34 (.tmp 28) rfl g (o + i * 2) (by simp [Act.eval, e28]) (SS a).toList _ (range_below hI HX.out) Try.underlying34 rfl (info34 _) ?_
          exact hKR _ (hX.refl _)
        (try simp only [Act.put, List.setIfInBounds_toArray, List.set_cons_zero, List.set_cons_succ])
        refine c_val hX (v := ?_) 9 ({ dst := some 30, op := Go.Op.load 34 (Go.Operand.tmp 3), type := 34, pos := "ref.go:90", after := #[{ on := 4, ground := Go.Ground.guard }], guard := some (4, true) }) hI (by kernel_rfl) (by kernel_rfl) (wanted_of (j := 4) (d := 25) rfl (by kernel_rfl) rfl) ?_ ?_
        rotate_left
        · intro bA hb W hI KR hKR
          have e3 := hb 3
          simp only [List.getElem?_toArray, List.getElem?_cons_succ, List.getElem?_cons_zero] at e3
          clear hb
          refine wp_load_mid 34 (.tmp 3) rfl w.heap.size (0) (by simp [Act.eval, e3]) (SS s).toList _ (range_below hI HC.out) Try.underlying34 rfl (info34 _) ?_
          exact hKR _ (hX.refl _)
        (try simp only [Act.put, List.setIfInBounds_toArray, List.set_cons_zero, List.set_cons_succ])
        refine c_val hX (v := ?_) 10 ({ dst := some 31, op := Go.Op.binOp Go.BinOp.eql 34 (Go.Operand.tmp 29) (Go.Operand.tmp 30) 34, type := 4, pos := "ref.go:90", after := #[{ on := 8, ground := Go.Ground.data }, { on := 9, ground := Go.Ground.data }, { on := 4, ground := Go.Ground.guard }], guard := some (4, true) }) hI (by kernel_rfl) (by kernel_rfl) (wanted_of (j := 4) (d := 25) rfl (by kernel_rfl) rfl) ?_ ?_
        rotate_left
        · intro bA hb W hI KR hKR
          have e29 := hb 29
          have e30 := hb 30
          simp only [List.getElem?_toArray, List.getElem?_cons_succ, List.getElem?_cons_zero] at e29 e30
          clear hb
          refine wp_of_run (exec_eql34 (p := a) (q := s) rfl (by simp [Act.eval, e29]) (by simp [Act.eval, e30])) ?_
          exact hKR _ (hX.refl _)
        (try simp only [Act.put, List.setIfInBounds_toArray, List.set_cons_zero, List.set_cons_succ])
        refine c_val hX (v := ?_) 11 ({ dst := some 32, op := Go.Op.pick (Go.Operand.tmp 25) (Go.Operand.tmp 31) (Go.Operand.const (Go.Value.bool false)), type := 4, pos := "ref.go:90", after := #[{ on := 4, ground := Go.Ground.data }, { on := 10, ground := Go.Ground.data }], guard := none }) hI (by kernel_rfl) (by kernel_rfl) rfl ?_ ?_
        rotate_left
        · intro bA hb W hI KR hKR
          have e25 := hb 25
          have e31 := hb 31
          simp only [List.getElem?_toArray, List.getElem?_cons_succ, List.getElem?_cons_zero] at e25 e31
          clear hb
          go_simp
          exact hKR _ (Gr.refl _)
        (try simp only [Act.put, List.setIfInBounds_toArray, List.set_cons_zero, List.set_cons_succ])
        refine c_done (by kernel_rfl) ?_
        intro w3 hW
        refine hQ' _ _ ?_
        have hI := hX.keep hI hW
        clear hQ' hX hW
        by_cases qs : a = s
        · have qd : decide (a = s) = true := decide_eq_true qs
          have HW := Lib.hid (show withL l s = l by unfold withL; rw [HF.out, if_pos qd])
          go_wp2
          go_ret
          refine ⟨_, rfl, ?_, bel HB0.out hI⟩
          rw [HW.out]
          show w3.ownsRow base 34 2 (.slice (some ⟨g, o, none⟩) N c) l.length (cellsS l)
          rw [HN.out]
          exact pw_own_below HO.out (bel HB0.out hI)
        · have qd : decide (a = s) = false := decide_eq_false qs
          have HW := Lib.hid (show withL l s = l.take i ++ [s] ++ l.drop i by unfold withL; rw [HF.out, if_neg (by simpa using qs), HP.out])
          have HI2 := Lib.hid hI
          have H0 := Lib.hid (H.out.below HB0.out)
          have hlen : (l.take i).length ≤ 1000000 := by simp; have := HN.out; omega
          have hlen1 : (l.take i ++ [s]).length ≤ 1000000 := by simp; have := HN.out; omega
          have hlen2 : (l.drop i).length ≤ 1000000 := by simp; have := HN.out; omega
          have HL1 := Lib.hid hlen
          have HL2 := Lib.hid hlen1
          have HL3 := Lib.hid hlen2
          clear hlen hlen1 hlen2
          have hic : i ≤ c := by omega
          have hiN : i ≤ N := by omega
          have hil : i ≤ l.length := by rw [← HN.out]; exact hiN
          go_wp2
          refine run_region (fn := Try.f37) (id := 6) (n := 13) [] (Bw W0) Gr (by kernel_rfl) (by kernel_rfl) (by kernel_rfl) (by kernel_rfl) Gr.refl (fun _ _ _ => Gr.trans) (fun _ _ h k => bel h k) ?_
          intro Q' hQ' hX
          have hI : (Bw W0) _ := below_drew1 HI2.out
          have HM := Lib.hid (show MW W0.heap.size (l.take i) s 0 undef none _ from ⟨.inl rfl, hI.size, fun _ e => by cases e⟩)
          refine c_val hX (v := ?_) 1 ({ dst := some 35, op := Go.Op.move (Go.Operand.tmp 0), type := 55, pos := "ref.go:93", after := #[], guard := none }) hI (by kernel_rfl) (by kernel_rfl) rfl ?_ ?_
          rotate_left
          · intro bA hb W hI KR hKR
            have e0 := hb 0
            simp only [List.getElem?_toArray, List.getElem?_cons_succ, List.getElem?_cons_zero] at e0
            clear hb
            go_simp
            exact hKR _ (Gr.refl _)
          (try simp only [Act.put, List.setIfInBounds_toArray, List.set_cons_zero, List.set_cons_succ])
          refine c_val hX (v := ?_) 2 ({ dst := some 36, op := Go.Op.move (Go.Operand.tmp 5), type := 3, pos := "ref.go:93", after := #[], guard := none }) hI (by kernel_rfl) (by kernel_rfl) rfl ?_ ?_
          rotate_left
          · intro bA hb W hI KR hKR
            have e5 := hb 5
            simp only [List.getElem?_toArray, List.getElem?_cons_succ, List.getElem?_cons_zero] at e5
            clear hb
            go_simp
            exact hKR _ (Gr.refl _)
          (try simp only [Act.put, List.setIfInBounds_toArray, List.set_cons_zero, List.set_cons_succ])
          refine c_val hX (v := ?_) 3 ({ dst := some 37, op := Go.Op.slice 55 (Go.Operand.tmp 35) none (some (Go.Operand.tmp 36)) none, type := 55, pos := "ref.go:93", after := #[{ on := 1, ground := Go.Ground.data }, { on := 2, ground := Go.Ground.data }], guard := none }) hI (by kernel_rfl) (by kernel_rfl) rfl ?_ ?_
          rotate_left
          · intro bA hb W hI KR hKR
            have e35 := hb 35
            have e36 := hb 36
            simp only [List.getElem?_toArray, List.getElem?_cons_succ, List.getElem?_cons_zero] at e35 e36
            clear hb
            refine wp_run (exec_slice_hi (k := i) Try.underlying55 sz34 rfl (ev_tmp e35) (ev_tmp e36) hic) ?_
            exact hKR _ (hX.refl _)
          (try simp only [Act.put, List.setIfInBounds_toArray, List.set_cons_zero, List.set_cons_succ])
          refine c_val hX (v := ?_) 5 ({ dst := some 39, op := Go.Op.load 34 (Go.Operand.tmp 3), type := 34, pos := "ref.go:93", after := #[], guard := none }) hI (by kernel_rfl) (by kernel_rfl) rfl ?_ ?_
          rotate_left
          · intro bA hb W hI KR hKR
            have e3 := hb 3
            simp only [List.getElem?_toArray, List.getElem?_cons_succ, List.getElem?_cons_zero] at e3
            clear hb
            refine wp_load_mid 34 (.tmp 3) rfl w.heap.size (0) (by simp [Act.eval, e3]) (SS s).toList _ (range_below hI HC.out) Try.underlying34 rfl (info34 _) ?_
            exact hKR _ (hX.refl _)
          (try simp only [Act.put, List.setIfInBounds_toArray, List.set_cons_zero, List.set_cons_succ])
          refine c_val hX (v := ?_) 8 ({ dst := some 42, op := Go.Op.move (Go.Operand.tmp 0), type := 55, pos := "ref.go:93", after := #[], guard := none }) hI (by kernel_rfl) (by kernel_rfl) rfl ?_ ?_
          rotate_left
          · intro bA hb W hI KR hKR
            have e0 := hb 0
            simp only [List.getElem?_toArray, List.getElem?_cons_succ, List.getElem?_cons_zero] at e0
            clear hb
            go_simp
            exact hKR _ (Gr.refl _)
          (try simp only [Act.put, List.setIfInBounds_toArray, List.set_cons_zero, List.set_cons_succ])
          refine c_val hX (v := ?_) 9 ({ dst := some 43, op := Go.Op.move (Go.Operand.tmp 5), type := 3, pos := "ref.go:93", after := #[], guard := none }) hI (by kernel_rfl) (by kernel_rfl) rfl ?_ ?_
          rotate_left
          · intro bA hb W hI KR hKR
            have e5 := hb 5
            simp only [List.getElem?_toArray, List.getElem?_cons_succ, List.getElem?_cons_zero] at e5
            clear hb
            go_simp
            exact hKR _ (Gr.refl _)
          (try simp only [Act.put, List.setIfInBounds_toArray, List.set_cons_zero, List.set_cons_succ])
          refine c_val hX (v := ?_) 10 ({ dst := some 44, op := Go.Op.slice 55 (Go.Operand.tmp 42) (some (Go.Operand.tmp 43)) none none, type := 55, pos := "ref.go:93", after := #[{ on := 8, ground := Go.Ground.data }, { on := 9, ground := Go.Ground.data }], guard := none }) hI (by kernel_rfl) (by kernel_rfl) rfl ?_ ?_
          rotate_left
          · intro bA hb W hI KR hKR
            have e42 := hb 42
            have e43 := hb 43
            simp only [List.getElem?_toArray, List.getElem?_cons_succ, List.getElem?_cons_zero] at e42 e43
            clear hb
            refine wp_run (exec_slice_lo (k := i) Try.underlying55 sz34 rfl (ev_tmp e42) (ev_tmp e43) hiN) ?_
            exact hKR _ (hX.refl _)
          (try simp only [Act.put, List.setIfInBounds_toArray, List.set_cons_zero, List.set_cons_succ])
          refine c_two 0 6 ({ dst := some 34, op := Go.Op.buildSlice 55 0 #[], type := 55, pos := "ref.go:93", after := #[], guard := none }) ({ dst := some 40, op := Go.Op.buildSlice 55 1 #[(0, Go.Operand.tmp 39)], type := 55, pos := "ref.go:93", after := #[{ on := 5, ground := Go.Ground.data }], guard := none }) (by kernel_rfl) (by kernel_rfl) (by kernel_rfl) rfl rfl ?_ ?_
          · intro bA hb W hW KR hKR
            clear hb
            have hIW := hX.keep hI hW
            clear hI
            replace HM := Lib.hid (HM.out.up hW)
            go_simp
            have hI := below_alloc hIW (.cells #[] 34)
            refine hKR _ _ hI ?_
            replace HM := Lib.hid HM.out.one
            (try clear hW)
            (try clear hIW)
            (try simp only [Act.put, List.setIfInBounds_toArray, List.set_cons_zero, List.set_cons_succ])
            refine c_two 4 6 ({ dst := some 38, op := Go.Op.call { callee := Go.Callee.builtin Go.Builtin.append, args := #[Go.Operand.tmp 34, Go.Operand.tmp 37], argTypes := #[55, 55] }, type := 55, pos := "ref.go:93", after := #[{ on := 0, ground := Go.Ground.data }, { on := 3, ground := Go.Ground.data }], guard := none }) ({ dst := some 40, op := Go.Op.buildSlice 55 1 #[(0, Go.Operand.tmp 39)], type := 55, pos := "ref.go:93", after := #[{ on := 5, ground := Go.Ground.data }], guard := none }) (by kernel_rfl) (by kernel_rfl) (by kernel_rfl) rfl rfl ?_ ?_
            · intro bA hb W hW KR hKR
              have e34 := hb 34
              have e37 := hb 37
              simp only [List.getElem?_toArray, List.getElem?_cons_succ, List.getElem?_cons_zero] at e34 e37
              clear hb
              have hIW := hX.keep hI hW
              clear hI
              replace HM := Lib.hid (HM.out.up hW)
              obtain ⟨v2, W2, r2, m2, b2⟩ := HM.out.app ((H0.out.below hIW).take hil) (HZz.out.hi hic) HL1.out
              refine wp_app (.tmp 34) (.tmp 37) rfl rfl (ev_tmp e34) (ev_tmp e37) r2 ?_
              have hI := b2 W0 (Nat.le_refl _) hIW
              refine hKR _ _ hI ?_
              replace HM := Lib.hid m2
              clear r2 m2 b2
              (try clear hW)
              (try clear hIW)
              (try simp only [Act.put, List.setIfInBounds_toArray, List.set_cons_zero, List.set_cons_succ])
              refine c_main 6 ({ dst := some 40, op := Go.Op.buildSlice 55 1 #[(0, Go.Operand.tmp 39)], type := 55, pos := "ref.go:93", after := #[{ on := 5, ground := Go.Ground.data }], guard := none }) (by kernel_rfl) (by kernel_rfl) rfl ?_
              intro bA hb W hW KR hKR
              have e39 := hb 39
              simp only [List.getElem?_toArray, List.getElem?_cons_succ, List.getElem?_cons_zero] at e39
              clear hb
              have hIW := hX.keep hI hW
              clear hI
              replace HM := Lib.hid (HM.out.up hW)
              refine wp_run (exec_buildSlice (l := [(0, .tmp 39)]) rfl (by simp only [List.map_cons, List.map_nil, Act.eval, Array.getD_eq_getD_getElem?, e39, Option.getD_some]; exact bs55 s W)) ?_
              have hI := below_alloc hIW (.cells (SS s) 34)
              refine hKR _ _ hI ?_
              replace HM := Lib.hid HM.out.blk
              (try clear hW)
              (try clear hIW)
              (try simp only [Act.put, List.setIfInBounds_toArray, List.set_cons_zero, List.set_cons_succ])
              refine c_main 7 ({ dst := some 41, op := Go.Op.call { callee := Go.Callee.builtin Go.Builtin.append, args := #[Go.Operand.tmp 38, Go.Operand.tmp 40], argTypes := #[55, 55] }, type := 55, pos := "ref.go:93", after := #[{ on := 4, ground := Go.Ground.data }, { on := 6, ground := Go.Ground.data }, { on := 4, ground := Go.Ground.chain }], guard := none }) (by kernel_rfl) (by kernel_rfl) rfl ?_
              intro bA hb W hW KR hKR
              have e38 := hb 38
              have e40 := hb 40
              simp only [List.getElem?_toArray, List.getElem?_cons_succ, List.getElem?_cons_zero] at e38 e40
              clear hb
              have hIW := hX.keep hI hW
              clear hI
              replace HM := Lib.hid (HM.out.up hW)
              obtain ⟨v3, W3, r3, m3, b3⟩ := HM.out.app2 HL1.out
              refine wp_app (.tmp 38) (.tmp 40) rfl rfl (ev_tmp e38) (ev_tmp e40) r3 ?_
              have hI := b3 W0 (Nat.le_refl _) hIW
              refine hKR _ _ hI ?_
              have HR := Lib.hid m3
              clear r3 m3 b3 HM
              (try clear hW)
              (try clear hIW)
              (try simp only [Act.put, List.setIfInBounds_toArray, List.set_cons_zero, List.set_cons_succ])
              refine c_main 11 ({ dst := some 45, op := Go.Op.call { callee := Go.Callee.builtin Go.Builtin.append, args := #[Go.Operand.tmp 41, Go.Operand.tmp 44], argTypes := #[55, 55] }, type := 55, pos := "ref.go:93", after := #[{ on := 7, ground := Go.Ground.data }, { on := 10, ground := Go.Ground.data }, { on := 7, ground := Go.Ground.chain }], guard := none }) (by kernel_rfl) (by kernel_rfl) rfl ?_
              intro bA hb W hW KR hKR
              have e41 := hb 41
              have e44 := hb 44
              simp only [List.getElem?_toArray, List.getElem?_cons_succ, List.getElem?_cons_zero] at e41 e44
              clear hb
              have hIW := hX.keep hI hW
              clear hI
              replace HR := Lib.hid (pw_own_below HR.out hW)
              obtain ⟨v4, W4, r4, m4, b4, _⟩ := app_rows HR.out ((H0.out.below hIW).drop hil) (HZz.out.lo hiN) hIW.size HL2.out HL3.out
              refine wp_app (.tmp 41) (.tmp 44) rfl rfl (ev_tmp e41) (ev_tmp e44) r4 ?_
              have hI := hIW.grown b4 hIW.size (fun k hk => (own_lt HR.out k hk).1)
              refine hKR _ _ hI ?_
              replace HR := Lib.hid m4
              clear r4 m4 b4
              (try clear hW)
              (try clear hIW)
              (try simp only [Act.put, List.setIfInBounds_toArray, List.set_cons_zero, List.set_cons_succ])
              refine c_val hX (v := ?_) 12 ({ dst := some 4, op := Go.Op.assign (Go.Operand.tmp 45), type := 55, pos := "ref.go:93", after := #[{ on := 11, ground := Go.Ground.data }, { on := 11, ground := Go.Ground.chain }, { on := 0, ground := Go.Ground.phase }, { on := 1, ground := Go.Ground.phase }, { on := 2, ground := Go.Ground.phase }, { on := 3, ground := Go.Ground.phase }, { on := 4, ground := Go.Ground.phase }, { on := 5, ground := Go.Ground.phase }, { on := 6, ground := Go.Ground.phase }, { on := 7, ground := Go.Ground.phase }, { on := 8, ground := Go.Ground.phase }, { on := 9, ground := Go.Ground.phase }, { on := 10, ground := Go.Ground.phase }, { on := 11, ground := Go.Ground.phase }], guard := none }) hI (by kernel_rfl) (by kernel_rfl) rfl ?_ ?_
              rotate_left
              · intro bA hb W hI KR hKR
                have e45 := hb 45
                simp only [List.getElem?_toArray, List.getElem?_cons_succ, List.getElem?_cons_zero] at e45
                clear hb
                go_simp
                exact hKR _ (Gr.refl _)
              (try simp only [Act.put, List.setIfInBounds_toArray, List.set_cons_zero, List.set_cons_succ])
              refine c_done (by kernel_rfl) ?_
              intro w4 hW
              refine hQ' _ _ ?_
              have hI := hX.keep hI hW
              clear hQ' hX
              go_wp2
              all_goals
                go_ret
                refine ⟨_, rfl, ?_, bel HB0.out hI⟩
                rw [HW.out]
                exact own_base (pw_own_below HR.out hW) (Nat.le_trans hb'.out HB0.out.size)
            · intro bA hb W hW KR hKR
              have e39 := hb 39
              simp only [List.getElem?_toArray, List.getElem?_cons_succ, List.getElem?_cons_zero] at e39
              clear hb
              have hIW := hX.keep hI hW
              clear hI
              replace HM := Lib.hid (HM.out.up hW)
              refine wp_run (exec_buildSlice (l := [(0, .tmp 39)]) rfl (by simp only [List.map_cons, List.map_nil, Act.eval, Array.getD_eq_getD_getElem?, e39, Option.getD_some]; exact bs55 s W)) ?_
              have hI := below_alloc hIW (.cells (SS s) 34)
              refine hKR _ _ hI ?_
              replace HM := Lib.hid HM.out.blk
              (try clear hW)
              (try clear hIW)
              (try simp only [Act.put, List.setIfInBounds_toArray, List.set_cons_zero, List.set_cons_succ])
              refine c_main 4 ({ dst := some 38, op := Go.Op.call { callee := Go.Callee.builtin Go.Builtin.append, args := #[Go.Operand.tmp 34, Go.Operand.tmp 37], argTypes := #[55, 55] }, type := 55, pos := "ref.go:93", after := #[{ on := 0, ground := Go.Ground.data }, { on := 3, ground := Go.Ground.data }], guard := none }) (by kernel_rfl) (by kernel_rfl) rfl ?_
              intro bA hb W hW KR hKR
              have e34 := hb 34
              have e37 := hb 37
              simp only [List.getElem?_toArray, List.getElem?_cons_succ, List.getElem?_cons_zero] at e34 e37
              clear hb
              have hIW := hX.keep hI hW
              clear hI
              replace HM := Lib.hid (HM.out.up hW)
              obtain ⟨v2, W2, r2, m2, b2⟩ := HM.out.app ((H0.out.below hIW).take hil) (HZz.out.hi hic) HL1.out
              refine wp_app (.tmp 34) (.tmp 37) rfl rfl (ev_tmp e34) (ev_tmp e37) r2 ?_
              have hI := b2 W0 (Nat.le_refl _) hIW
              refine hKR _ _ hI ?_
              replace HM := Lib.hid m2
              clear r2 m2 b2
              (try clear hW)
              (try clear hIW)
              (try simp only [Act.put, List.setIfInBounds_toArray, List.set_cons_zero, List.set_cons_succ])
              refine c_main 7 ({ dst := some 41, op := Go.Op.call { callee := Go.Callee.builtin Go.Builtin.append, args := #[Go.Operand.tmp 38, Go.Operand.tmp 40], argTypes := #[55, 55] }, type := 55, pos := "ref.go:93", after := #[{ on := 4, ground := Go.Ground.data }, { on := 6, ground := Go.Ground.data }, { on := 4, ground := Go.Ground.chain }], guard := none }) (by kernel_rfl) (by kernel_rfl) rfl ?_
              intro bA hb W hW KR hKR
              have e38 := hb 38
              have e40 := hb 40
              simp only [List.getElem?_toArray, List.getElem?_cons_succ, List.getElem?_cons_zero] at e38 e40
              clear hb
              have hIW := hX.keep hI hW
              clear hI
              replace HM := Lib.hid (HM.out.up hW)
              obtain ⟨v3, W3, r3, m3, b3⟩ := HM.out.app2 HL1.out
              refine wp_app (.tmp 38) (.tmp 40) rfl rfl (ev_tmp e38) (ev_tmp e40) r3 ?_
              have hI := b3 W0 (Nat.le_refl _) hIW
              refine hKR _ _ hI ?_
              have HR := Lib.hid m3
              clear r3 m3 b3 HM
              (try clear hW)
              (try clear hIW)
              (try simp only [Act.put, List.setIfInBounds_toArray, List.set_cons_zero, List.set_cons_succ])
              refine c_main 11 ({ dst := some 45, op := Go.Op.call { callee := Go.Callee.builtin Go.Builtin.append, args := #[Go.Operand.tmp 41, Go.Operand.tmp 44], argTypes := #[55, 55] }, type := 55, pos := "ref.go:93", after := #[{ on := 7, ground := Go.Ground.data }, { on := 10, ground := Go.Ground.data }, { on := 7, ground := Go.Ground.chain }], guard := none }) (by kernel_rfl) (by kernel_rfl) rfl ?_
              intro bA hb W hW KR hKR
              have e41 := hb 41
              have e44 := hb 44
              simp only [List.getElem?_toArray, List.getElem?_cons_succ, List.getElem?_cons_zero] at e41 e44
              clear hb
              have hIW := hX.keep hI hW
              clear hI
              replace HR := Lib.hid (pw_own_below HR.out hW)
              obtain ⟨v4, W4, r4, m4, b4, _⟩ := app_rows HR.out ((H0.out.below hIW).drop hil) (HZz.out.lo hiN) hIW.size HL2.out HL3.out
              refine wp_app (.tmp 41) (.tmp 44) rfl rfl (ev_tmp e41) (ev_tmp e44) r4 ?_
              have hI := hIW.grown b4 hIW.size (fun k hk => (own_lt HR.out k hk).1)
              refine hKR _ _ hI ?_
              replace HR := Lib.hid m4
              clear r4 m4 b4
              (try clear hW)
              (try clear hIW)
              (try simp only [Act.put, List.setIfInBounds_toArray, List.set_cons_zero, List.set_cons_succ])
              refine c_val hX (v := ?_) 12 ({ dst := some 4, op := Go.Op.assign (Go.Operand.tmp 45), type := 55, pos := "ref.go:93", after := #[{ on := 11, ground := Go.Ground.data }, { on := 11, ground := Go.Ground.chain }, { on := 0, ground := Go.Ground.phase }, { on := 1, ground := Go.Ground.phase }, { on := 2, ground := Go.Ground.phase }, { on := 3, ground := Go.Ground.phase }, { on := 4, ground := Go.Ground.phase }, { on := 5, ground := Go.Ground.phase }, { on := 6, ground := Go.Ground.phase }, { on := 7, ground := Go.Ground.phase }, { on := 8, ground := Go.Ground.phase }, { on := 9, ground := Go.Ground.phase }, { on := 10, ground := Go.Ground.phase }, { on := 11, ground := Go.Ground.phase }], guard := none }) hI (by kernel_rfl) (by kernel_rfl) rfl ?_ ?_
              rotate_left
              · intro bA hb W hI KR hKR
                have e45 := hb 45
                simp only [List.getElem?_toArray, List.getElem?_cons_succ, List.getElem?_cons_zero] at e45
                clear hb
                go_simp
                exact hKR _ (Gr.refl _)
              (try simp only [Act.put, List.setIfInBounds_toArray, List.set_cons_zero, List.set_cons_succ])
              refine c_done (by kernel_rfl) ?_
              intro w4 hW
              refine hQ' _ _ ?_
              have hI := hX.keep hI hW
              clear hQ' hX
              go_wp2
              all_goals
                go_ret
                refine ⟨_, rfl, ?_, bel HB0.out hI⟩
                rw [HW.out]
                exact own_base (pw_own_below HR.out hW) (Nat.le_trans hb'.out HB0.out.size)
          · intro bA hb W hW KR hKR
            have e39 := hb 39
            simp only [List.getElem?_toArray, List.getElem?_cons_succ, List.getElem?_cons_zero] at e39
            clear hb
            have hIW := hX.keep hI hW
            clear hI
            replace HM := Lib.hid (HM.out.up hW)
            refine wp_run (exec_buildSlice (l := [(0, .tmp 39)]) rfl (by simp only [List.map_cons, List.map_nil, Act.eval, Array.getD_eq_getD_getElem?, e39, Option.getD_some]; exact bs55 s W)) ?_
            have hI := below_alloc hIW (.cells (SS s) 34)
            refine hKR _ _ hI ?_
            replace HM := Lib.hid HM.out.blk
            (try clear hW)
            (try clear hIW)
            (try simp only [Act.put, List.setIfInBounds_toArray, List.set_cons_zero, List.set_cons_succ])
            refine c_main 0 ({ dst := some 34, op := Go.Op.buildSlice 55 0 #[], type := 55, pos := "ref.go:93", after := #[], guard := none }) (by kernel_rfl) (by kernel_rfl) rfl ?_
            intro bA hb W hW KR hKR
            clear hb
            have hIW := hX.keep hI hW
            clear hI
            replace HM := Lib.hid (HM.out.up hW)
            go_simp
            have hI := below_alloc hIW (.cells #[] 34)
            refine hKR _ _ hI ?_
            replace HM := Lib.hid HM.out.one
            (try clear hW)
            (try clear hIW)
            (try simp only [Act.put, List.setIfInBounds_toArray, List.set_cons_zero, List.set_cons_succ])
            refine c_main 4 ({ dst := some 38, op := Go.Op.call { callee := Go.Callee.builtin Go.Builtin.append, args := #[Go.Operand.tmp 34, Go.Operand.tmp 37], argTypes := #[55, 55] }, type := 55, pos := "ref.go:93", after := #[{ on := 0, ground := Go.Ground.data }, { on := 3, ground := Go.Ground.data }], guard := none }) (by kernel_rfl) (by kernel_rfl) rfl ?_
            intro bA hb W hW KR hKR
            have e34 := hb 34
            have e37 := hb 37
            simp only [List.getElem?_toArray, List.getElem?_cons_succ, List.getElem?_cons_zero] at e34 e37
            clear hb
            have hIW := hX.keep hI hW
            clear hI
            replace HM := Lib.hid (HM.out.up hW)
            obtain ⟨v2, W2, r2, m2, b2⟩ := HM.out.app ((H0.out.below hIW).take hil) (HZz.out.hi hic) HL1.out
            refine wp_app (.tmp 34) (.tmp 37) rfl rfl (ev_tmp e34) (ev_tmp e37) r2 ?_
            have hI := b2 W0 (Nat.le_refl _) hIW
            refine hKR _ _ hI ?_
            replace HM := Lib.hid m2
            clear r2 m2 b2
            (try clear hW)
            (try clear hIW)
            (try simp only [Act.put, List.setIfInBounds_toArray, List.set_cons_zero, List.set_cons_succ])
            refine c_main 7 ({ dst := some 41, op := Go.Op.call { callee := Go.Callee.builtin Go.Builtin.append, args := #[Go.Operand.tmp 38, Go.Operand.tmp 40], argTypes := #[55, 55] }, type := 55, pos := "ref.go:93", after := #[{ on := 4, ground := Go.Ground.data }, { on := 6, ground := Go.Ground.data }, { on := 4, ground := Go.Ground.chain }], guard := none }) (by kernel_rfl) (by kernel_rfl) rfl ?_
            intro bA hb W hW KR hKR
            have e38 := hb 38
            have e40 := hb 40
            simp only [List.getElem?_toArray, List.getElem?_cons_succ, List.getElem?_cons_zero] at e38 e40
            clear hb
            have hIW := hX.keep hI hW
            clear hI
            replace HM := Lib.hid (HM.out.up hW)
            obtain ⟨v3, W3, r3, m3, b3⟩ := HM.out.app2 HL1.out
            refine wp_app (.tmp 38) (.tmp 40) rfl rfl (ev_tmp e38) (ev_tmp e40) r3 ?_
            have hI := b3 W0 (Nat.le_refl _) hIW
            refine hKR _ _ hI ?_
            have HR := Lib.hid m3
            clear r3 m3 b3 HM
            (try clear hW)
            (try clear hIW)
            (try simp only [Act.put, List.setIfInBounds_toArray, List.set_cons_zero, List.set_cons_succ])
            refine c_main 11 ({ dst := some 45, op := Go.Op.call { callee := Go.Callee.builtin Go.Builtin.append, args := #[Go.Operand.tmp 41, Go.Operand.tmp 44], argTypes := #[55, 55] }, type := 55, pos := "ref.go:93", after := #[{ on := 7, ground := Go.Ground.data }, { on := 10, ground := Go.Ground.data }, { on := 7, ground := Go.Ground.chain }], guard := none }) (by kernel_rfl) (by kernel_rfl) rfl ?_
            intro bA hb W hW KR hKR
            have e41 := hb 41
            have e44 := hb 44
            simp only [List.getElem?_toArray, List.getElem?_cons_succ, List.getElem?_cons_zero] at e41 e44
            clear hb
            have hIW := hX.keep hI hW
            clear hI
            replace HR := Lib.hid (pw_own_below HR.out hW)
            obtain ⟨v4, W4, r4, m4, b4, _⟩ := app_rows HR.out ((H0.out.below hIW).drop hil) (HZz.out.lo hiN) hIW.size HL2.out HL3.out
            refine wp_app (.tmp 41) (.tmp 44) rfl rfl (ev_tmp e41) (ev_tmp e44) r4 ?_
            have hI := hIW.grown b4 hIW.size (fun k hk => (own_lt HR.out k hk).1)
            refine hKR _ _ hI ?_
            replace HR := Lib.hid m4
            clear r4 m4 b4
            (try clear hW)
            (try clear hIW)
            (try simp only [Act.put, List.setIfInBounds_toArray, List.set_cons_zero, List.set_cons_succ])
            refine c_val hX (v := ?_) 12 ({ dst := some 4, op := Go.Op.assign (Go.Operand.tmp 45), type := 55, pos := "ref.go:93", after := #[{ on := 11, ground := Go.Ground.data }, { on := 11, ground := Go.Ground.chain }, { on := 0, ground := Go.Ground.phase }, { on := 1, ground := Go.Ground.phase }, { on := 2, ground := Go.Ground.phase }, { on := 3, ground := Go.Ground.phase }, { on := 4, ground := Go.Ground.phase }, { on := 5, ground := Go.Ground.phase }, { on := 6, ground := Go.Ground.phase }, { on := 7, ground := Go.Ground.phase }, { on := 8, ground := Go.Ground.phase }, { on := 9, ground := Go.Ground.phase }, { on := 10, ground := Go.Ground.phase }, { on := 11, ground := Go.Ground.phase }], guard := none }) hI (by kernel_rfl) (by kernel_rfl) rfl ?_ ?_
            rotate_left
            · intro bA hb W hI KR hKR
              have e45 := hb 45
              simp only [List.getElem?_toArray, List.getElem?_cons_succ, List.getElem?_cons_zero] at e45
              clear hb
              go_simp
              exact hKR _ (Gr.refl _)
            (try simp only [Act.put, List.setIfInBounds_toArray, List.set_cons_zero, List.set_cons_succ])
            refine c_done (by kernel_rfl) ?_
            intro w4 hW
            refine hQ' _ _ ?_
            have hI := hX.keep hI hW
            clear hQ' hX
            go_wp2
            all_goals
              go_ret
              refine ⟨_, rfl, ?_, bel HB0.out hI⟩
              rw [HW.out]
              exact own_base (pw_own_below HR.out hW) (Nat.le_trans hb'.out HB0.out.size)
    · obtain rfl : i = N := by omega
      have hp : plc l s = i := plc_is l s i (by rw [← HN.out]; omega) HT.out (fun x hx => absurd (List.getElem?_eq_some_iff.1 hx).1 (by rw [← HN.out]; omega))
      have hfn : fnd l s = false := by
        unfold fnd
        rw [hp, List.getElem?_eq_none (by rw [← HN.out]; omega)]
        simp
      have HW := Lib.hid (show withL l s = l.take i ++ [s] ++ l.drop i by unfold withL; rw [hfn, if_neg (by simp), hp])
      clear hp hfn
      go_wp2
      refine run_region (fn := Try.f37) (id := 2) (n := 13) [] (Bw W0) Gr (by kernel_rfl) (by kernel_rfl) (by kernel_rfl) (by kernel_rfl) Gr.refl (fun _ _ _ => Gr.trans) (fun _ _ h k => bel h k) ?_
      intro Q' hQ' hX
      have hI : (Bw W0) _ := below_drew1 HB.out
      refine c_val hX (v := ?_) 0 ({ dst := some 6, op := Go.Op.move (Go.Operand.tmp 5), type := 3, pos := "ref.go:87", after := #[], guard := none }) hI (by kernel_rfl) (by kernel_rfl) rfl ?_ ?_
      rotate_left
      · intro bA hb W hI KR hKR
        have e5 := hb 5
        simp only [List.getElem?_toArray, List.getElem?_cons_succ, List.getElem?_cons_zero] at e5
        clear hb
        go_simp
        exact hKR _ (Gr.refl _)
      (try simp only [Act.put, List.setIfInBounds_toArray, List.set_cons_zero, List.set_cons_succ])
      refine c_val hX (v := ?_) 1 ({ dst := some 7, op := Go.Op.move (Go.Operand.tmp 0), type := 55, pos := "ref.go:87", after := #[], guard := none }) hI (by kernel_rfl) (by kernel_rfl) rfl ?_ ?_
      rotate_left
      · intro bA hb W hI KR hKR
        have e0 := hb 0
        simp only [List.getElem?_toArray, List.getElem?_cons_succ, List.getElem?_cons_zero] at e0
        clear hb
        go_simp
        exact hKR _ (Gr.refl _)
      (try simp only [Act.put, List.setIfInBounds_toArray, List.set_cons_zero, List.set_cons_succ])
      refine c_val hX (v := ?_) 2 ({ dst := some 8, op := Go.Op.call { callee := Go.Callee.builtin Go.Builtin.len, args := #[Go.Operand.tmp 7], argTypes := #[55] }, type := 3, pos := "ref.go:87", after := #[{ on := 1, ground := Go.Ground.data }], guard := none }) hI (by kernel_rfl) (by kernel_rfl) rfl ?_ ?_
      rotate_left
      · intro bA hb W hI KR hKR
        have e7 := hb 7
        simp only [List.getElem?_toArray, List.getElem?_cons_succ, List.getElem?_cons_zero] at e7
        clear hb
        go_simp
        exact hKR _ (Gr.refl _)
      (try simp only [Act.put, List.setIfInBounds_toArray, List.set_cons_zero, List.set_cons_succ])
      refine c_val hX (v := ?_) 3 ({ dst := some 9, op := Go.Op.binOp Go.BinOp.lss 3 (Go.Operand.tmp 6) (Go.Operand.tmp 8) 3, type := 4, pos := "ref.go:87", after := #[{ on := 0, ground := Go.Ground.data }, { on := 2, ground := Go.Ground.data }], guard := none }) hI (by kernel_rfl) (by kernel_rfl) rfl ?_ ?_
      rotate_left
      · intro bA hb W hI KR hKR
        have e6 := hb 6
        have e8 := hb 8
        simp only [List.getElem?_toArray, List.getElem?_cons_succ, List.getElem?_cons_zero] at e6 e8
        clear hb
        go_simp
        exact hKR _ (Gr.refl _)
      (try simp only [Act.put, List.setIfInBounds_toArray, List.set_cons_zero, List.set_cons_succ])
      refine c_val hX (v := ?_) 4 ({ dst := some 10, op := Go.Op.move (Go.Operand.tmp 9), type := 4, pos := "ref.go:87", after := #[{ on := 3, ground := Go.Ground.data }], guard := none }) hI (by kernel_rfl) (by kernel_rfl) rfl ?_ ?_
      rotate_left
      · intro bA hb W hI KR hKR
        have e9 := hb 9
        simp only [List.getElem?_toArray, List.getElem?_cons_succ, List.getElem?_cons_zero] at e9
        clear hb
        go_simp
        exact hKR _ (Gr.refl _)
      (try simp only [Act.put, List.setIfInBounds_toArray, List.set_cons_zero, List.set_cons_succ])
      refine c_off hX 5 ({ dst := some 11, op := Go.Op.move (Go.Operand.tmp 0), type := 55, pos := "ref.go:87", after := #[{ on := 4, ground := Go.Ground.guard }], guard := some (4, true) }) hI (by kernel_rfl) (by kernel_rfl) (Bool.eq_false_iff.2 (unwanted_of (j := 4) (d := 10) rfl (by kernel_rfl) rfl (by simp))) ?_
      (try simp only [Act.put, List.setIfInBounds_toArray, List.set_cons_zero, List.set_cons_succ])
      refine c_off hX 6 ({ dst := some 12, op := Go.Op.move (Go.Operand.tmp 5), type := 3, pos := "ref.go:87", after := #[{ on := 4, ground := Go.Ground.guard }], guard := some (4, true) }) hI (by kernel_rfl) (by kernel_rfl) (Bool.eq_false_iff.2 (unwanted_of (j := 4) (d := 10) rfl (by kernel_rfl) rfl (by simp))) ?_
      (try simp only [Act.put, List.setIfInBounds_toArray, List.set_cons_zero, List.set_cons_succ])
      refine c_off hX 7 ({ dst := some 13, op := Go.Op.indexAddr 55 (Go.Operand.tmp 11) (Go.Operand.tmp 12), type := 0, pos := "ref.go:87", after := #[{ on := 5, ground := Go.Ground.data }, { on := 6, ground := Go.Ground.data }, { on := 4, ground := Go.Ground.guard }], guard := some (4, true) }) hI (by kernel_rfl) (by kernel_rfl) (Bool.eq_false_iff.2 (unwanted_of (j := 4) (d := 10) rfl (by kernel_rfl) rfl (by simp))) ?_
      (try simp only [Act.put, List.setIfInBounds_toArray, List.set_cons_zero, List.set_cons_succ])
      refine c_off hX 8 ({ dst := some 14, op := Go.Op.load 34 (Go.Operand.tmp 13), type := 34, pos := "ref.go:87", after := #[{ on := 7, ground := Go.Ground.data }, { on := 4, ground := Go.Ground.guard }], guard := some (4, true) }) hI (by kernel_rfl) (by kernel_rfl) (Bool.eq_false_iff.2 (unwanted_of (j := 4) (d := 10) rfl (by kernel_rfl) rfl (by simp))) ?_
      (try simp only [Act.put, List.setIfInBounds_toArray, List.set_cons_zero, List.set_cons_succ])
      refine c_off hX 9 ({ dst := some 15, op := Go.Op.load 34 (Go.Operand.tmp 3), type := 34, pos := "ref.go:87", after := #[{ on := 4, ground := Go.Ground.guard }], guard := some (4, true) }) hI (by kernel_rfl) (by kernel_rfl) (Bool.eq_false_iff.2 (unwanted_of (j := 4) (d := 10) rfl (by kernel_rfl) rfl (by simp))) ?_
      (try simp only [Act.put, List.setIfInBounds_toArray, List.set_cons_zero, List.set_cons_succ])
      refine c_off hX 10 ({ dst := some 16, op := Go.Op.call { callee := Go.Callee.value (Go.Operand.func 39), args := #[Go.Operand.tmp 14, Go.Operand.tmp 15], argTypes := #[34, 34] }, type := 3, pos := "ref.go:87", after := #[{ on := 8, ground := Go.Ground.data }, { on := 9, ground := Go.Ground.data }, { on := 4, ground := Go.Ground.chain }, { on := 4, ground := Go.Ground.guard }], guard := some (4, true) }) hI (by kernel_rfl) (by kernel_rfl) (Bool.eq_false_iff.2 (unwanted_of (j := 4) (d := 10) rfl (by kernel_rfl) rfl (by simp))) ?_
      (try simp only [Act.put, List.setIfInBounds_toArray, List.set_cons_zero, List.set_cons_succ])
      refine c_off hX 11 ({ dst := some 17, op := Go.Op.binOp Go.BinOp.lss 3 (Go.Operand.tmp 16) (Go.Operand.const (Go.Value.int Go.IntKind.i64 0)) 3, type := 4, pos := "ref.go:87", after := #[{ on := 10, ground := Go.Ground.data }, { on := 4, ground := Go.Ground.guard }], guard := some (4, true) }) hI (by kernel_rfl) (by kernel_rfl) (Bool.eq_false_iff.2 (unwanted_of (j := 4) (d := 10) rfl (by kernel_rfl) rfl (by simp))) ?_
      (try simp only [Act.put, List.setIfInBounds_toArray, List.set_cons_zero, List.set_cons_succ])
      refine c_val hX (v := ?_) 12 ({ dst := some 18, op := Go.Op.pick (Go.Operand.tmp 10) (Go.Operand.tmp 17) (Go.Operand.const (Go.Value.bool false)), type := 4, pos := "ref.go:87", after := #[{ on := 4, ground := Go.Ground.data }, { on := 11, ground := Go.Ground.data }], guard := none }) hI (by kernel_rfl) (by kernel_rfl) rfl ?_ ?_
      rotate_left
      · intro bA hb W hI KR hKR
        have e10 := hb 10
        have e17 := hb 17
        simp only [List.getElem?_toArray, List.getElem?_cons_succ, List.getElem?_cons_zero] at e10 e17
        clear hb
        go_simp
        exact hKR _ (Gr.refl _)
      (try simp only [Act.put, List.setIfInBounds_toArray, List.set_cons_zero, List.set_cons_succ])
      refine c_done (by kernel_rfl) ?_
      intro w2 hW
      refine hQ' _ _ ?_
      have hI := hX.keep hI hW
      clear hQ' hX hW
      have HI := Lib.hid hI
      go_wp2
      refine run_region (fn := Try.f37) (id := 4) (n := 12) [] (Bw W0) Gr (by kernel_rfl) (by kernel_rfl) (by kernel_rfl) (by kernel_rfl) Gr.refl (fun _ _ _ => Gr.trans) (fun _ _ h k => bel h k) ?_
      intro Q' hQ' hX
      have hI : (Bw W0) _ := below_drew1 HI.out
      refine c_val hX (v := ?_) 0 ({ dst := some 21, op := Go.Op.move (Go.Operand.tmp 5), type := 3, pos := "ref.go:90", after := #[], guard := none }) hI (by kernel_rfl) (by kernel_rfl) rfl ?_ ?_
      rotate_left
      · intro bA hb W hI KR hKR
        have e5 := hb 5
        simp only [List.getElem?_toArray, List.getElem?_cons_succ, List.getElem?_cons_zero] at e5
        clear hb
        go_simp
        exact hKR _ (Gr.refl _)
      (try simp only [Act.put, List.setIfInBounds_toArray, List.set_cons_zero, List.set_cons_succ])
      refine c_val hX (v := ?_) 1 ({ dst := some 22, op := Go.Op.move (Go.Operand.tmp 0), type := 55, pos := "ref.go:90", after := #[], guard := none }) hI (by kernel_rfl) (by kernel_rfl) rfl ?_ ?_
      rotate_left
      · intro bA hb W hI KR hKR
        have e0 := hb 0
        simp only [List.getElem?_toArray, List.getElem?_cons_succ, List.getElem?_cons_zero] at e0
        clear hb
        go_simp
        exact hKR _ (Gr.refl _)
      (try simp only [Act.put, List.setIfInBounds_toArray, List.set_cons_zero, List.set_cons_succ])
      refine c_val hX (v := ?_) 2 ({ dst := some 23, op := Go.Op.call { callee := Go.Callee.builtin Go.Builtin.len, args := #[Go.Operand.tmp 22], argTypes := #[55] }, type := 3, pos := "ref.go:90", after := #[{ on := 1, ground := Go.Ground.data }], guard := none }) hI (by kernel_rfl) (by kernel_rfl) rfl ?_ ?_
      rotate_left
      · intro bA hb W hI KR hKR
        have e22 := hb 22
        simp only [List.getElem?_toArray, List.getElem?_cons_succ, List.getElem?_cons_zero] at e22
        clear hb
        go_simp
        exact hKR _ (Gr.refl _)
      (try simp only [Act.put, List.setIfInBounds_toArray, List.set_cons_zero, List.set_cons_succ])
      refine c_val hX (v := ?_) 3 ({ dst := some 24, op := Go.Op.binOp Go.BinOp.lss 3 (Go.Operand.tmp 21) (Go.Operand.tmp 23) 3, type := 4, pos := "ref.go:90", after := #[{ on := 0, ground := Go.Ground.data }, { on := 2, ground := Go.Ground.data }], guard := none }) hI (by kernel_rfl) (by kernel_rfl) rfl ?_ ?_
      rotate_left
      · intro bA hb W hI KR hKR
        have e21 := hb 21
        have e23 := hb 23
        simp only [List.getElem?_toArray, List.getElem?_cons_succ, List.getElem?_cons_zero] at e21 e23
        clear hb
        go_simp
        exact hKR _ (Gr.refl _)
      (try simp only [Act.put, List.setIfInBounds_toArray, List.set_cons_zero, List.set_cons_succ])
      refine c_val hX (v := ?_) 4 ({ dst := some 25, op := Go.Op.move (Go.Operand.tmp 24), type := 4, pos := "ref.go:90", after := #[{ on := 3, ground := Go.Ground.data }], guard := none }) hI (by kernel_rfl) (by kernel_rfl) rfl ?_ ?_
      rotate_left
      · intro bA hb W hI KR hKR
        have e24 := hb 24
        simp only [List.getElem?_toArray, List.getElem?_cons_succ, List.getElem?_cons_zero] at e24
        clear hb
        go_simp
        exact hKR _ (Gr.refl _)
      (try simp only [Act.put, List.setIfInBounds_toArray, List.set_cons_zero, List.set_cons_succ])
      refine c_off hX 5 ({ dst := some 26, op := Go.Op.move (Go.Operand.tmp 0), type := 55, pos := "ref.go:90", after := #[{ on := 4, ground := Go.Ground.guard }], guard := some (4, true) }) hI (by kernel_rfl) (by kernel_rfl) (Bool.eq_false_iff.2 (unwanted_of (j := 4) (d := 25) rfl (by kernel_rfl) rfl (by simp))) ?_
      (try simp only [Act.put, List.setIfInBounds_toArray, List.set_cons_zero, List.set_cons_succ])
      refine c_off hX 6 ({ dst := some 27, op := Go.Op.move (Go.Operand.tmp 5), type := 3, pos := "ref.go:90", after := #[{ on := 4, ground := Go.Ground.guard }], guard := some (4, true) }) hI (by kernel_rfl) (by kernel_rfl) (Bool.eq_false_iff.2 (unwanted_of (j := 4) (d := 25) rfl (by kernel_rfl) rfl (by simp))) ?_
      (try simp only [Act.put, List.setIfInBounds_toArray, List.set_cons_zero, List.set_cons_succ])
      refine c_off hX 7 ({ dst := some 28, op := Go.Op.indexAddr 55 (Go.Operand.tmp 26) (Go.Operand.tmp 27), type := 0, pos := "ref.go:90", after := #[{ on := 5, ground := Go.Ground.data }, { on := 6, ground := Go.Ground.data }, { on := 4, ground := Go.Ground.guard }], guard := some (4, true) }) hI (by kernel_rfl) (by kernel_rfl) (Bool.eq_false_iff.2 (unwanted_of (j := 4) (d := 25) rfl (by kernel_rfl) rfl (by simp))) ?_
      (try simp only [Act.put, List.setIfInBounds_toArray, List.set_cons_zero, List.set_cons_succ])
      refine c_off hX 8 ({ dst := some 29, op := Go.Op.load 34 (Go.Operand.tmp 28), type := 34, pos := "ref.go:90", after := #[{ on := 7, ground := Go.Ground.data }, { on := 4, ground := Go.Ground.guard }], guard := some (4, true) }) hI (by kernel_rfl) (by kernel_rfl) (Bool.eq_false_iff.2 (unwanted_of (j := 4) (d := 25) rfl (by kernel_rfl) rfl (by simp))) ?_
      (try simp only [Act.put, List.setIfInBounds_toArray, List.set_cons_zero, List.set_cons_succ])
      refine c_off hX 9 ({ dst := some 30, op := Go.Op.load 34 (Go.Operand.tmp 3), type := 34, pos := "ref.go:90", after := #[{ on := 4, ground := Go.Ground.guard }], guard := some (4, true) }) hI (by kernel_rfl) (by kernel_rfl) (Bool.eq_false_iff.2 (unwanted_of (j := 4) (d := 25) rfl (by kernel_rfl) rfl (by simp))) ?_
      (try simp only [Act.put, List.setIfInBounds_toArray, List.set_cons_zero, List.set_cons_succ])
      refine c_off hX 10 ({ dst := some 31, op := Go.Op.binOp Go.BinOp.eql 34 (Go.Operand.tmp 29) (Go.Operand.tmp 30) 34, type := 4, pos := "ref.go:90", after := #[{ on := 8, ground := Go.Ground.data }, { on := 9, ground := Go.Ground.data }, { on := 4, ground := Go.Ground.guard }], guard := some (4, true) }) hI (by kernel_rfl) (by kernel_rfl) (Bool.eq_false_iff.2 (unwanted_of (j := 4) (d := 25) rfl (by kernel_rfl) rfl (by simp))) ?_
      (try simp only [Act.put, List.setIfInBounds_toArray, List.set_cons_zero, List.set_cons_succ])
      refine c_val hX (v := ?_) 11 ({ dst := some 32, op := Go.Op.pick (Go.Operand.tmp 25) (Go.Operand.tmp 31) (Go.Operand.const (Go.Value.bool false)), type := 4, pos := "ref.go:90", after := #[{ on := 4, ground := Go.Ground.data }, { on := 10, ground := Go.Ground.data }], guard := none }) hI (by kernel_rfl) (by kernel_rfl) rfl ?_ ?_
      rotate_left
      · intro bA hb W hI KR hKR
        have e25 := hb 25
        have e31 := hb 31
        simp only [List.getElem?_toArray, List.getElem?_cons_succ, List.getElem?_cons_zero] at e25 e31
        clear hb
        go_simp
        exact hKR _ (Gr.refl _)
      (try simp only [Act.put, List.setIfInBounds_toArray, List.set_cons_zero, List.set_cons_succ])
      refine c_done (by kernel_rfl) ?_
      intro w3 hW
      refine hQ' _ _ ?_
      have hI := hX.keep hI hW
      clear hQ' hX hW
      have HI2 := Lib.hid hI
      have H0 := Lib.hid (H.out.below HB0.out)
      have hlen : (l.take i).length ≤ 1000000 := by simp; have := HN.out; omega
      have hlen1 : (l.take i ++ [s]).length ≤ 1000000 := by simp; have := HN.out; omega
      have hlen2 : (l.drop i).length ≤ 1000000 := by simp; have := HN.out; omega
      have HL1 := Lib.hid hlen
      have HL2 := Lib.hid hlen1
      have HL3 := Lib.hid hlen2
      clear hlen hlen1 hlen2
      have hic : i ≤ c := by omega
      have hiN : i ≤ i := by omega
      have hil : i ≤ l.length := by rw [← HN.out]; exact hiN
      go_wp2
      refine run_region (fn := Try.f37) (id := 6) (n := 13) [] (Bw W0) Gr (by kernel_rfl) (by kernel_rfl) (by kernel_rfl) (by kernel_rfl) Gr.refl (fun _ _ _ => Gr.trans) (fun _ _ h k => bel h k) ?_
      intro Q' hQ' hX
      have hI : (Bw W0) _ := below_drew1 HI2.out
      have HM := Lib.hid (show MW W0.heap.size (l.take i) s 0 undef none _ from ⟨.inl rfl, hI.size, fun _ e => by cases e⟩)
      refine c_val hX (v := ?_) 1 ({ dst := some 35, op := Go.Op.move (Go.Operand.tmp 0), type := 55, pos := "ref.go:93", after := #[], guard := none }) hI (by kernel_rfl) (by kernel_rfl) rfl ?_ ?_
      rotate_left
      · intro bA hb W hI KR hKR
        have e0 := hb 0
        simp only [List.getElem?_toArray, List.getElem?_cons_succ, List.getElem?_cons_zero] at e0
        clear hb
        go_simp
        exact hKR _ (Gr.refl _)
      (try simp only [Act.put, List.setIfInBounds_toArray, List.set_cons_zero, List.set_cons_succ])
      refine c_val hX (v := ?_) 2 ({ dst := some 36, op := Go.Op.move (Go.Operand.tmp 5), type := 3, pos := "ref.go:93", after := #[], guard := none }) hI (by kernel_rfl) (by kernel_rfl) rfl ?_ ?_
      rotate_left
      · intro bA hb W hI KR hKR
        have e5 := hb 5
        simp only [List.getElem?_toArray, List.getElem?_cons_succ, List.getElem?_cons_zero] at e5
        clear hb
        go_simp
        exact hKR _ (Gr.refl _)
      (try simp only [Act.put, List.setIfInBounds_toArray, List.set_cons_zero, List.set_cons_succ])
      refine c_val hX (v := ?_) 3 ({ dst := some 37, op := Go.Op.slice 55 (Go.Operand.tmp 35) none (some (Go.Operand.tmp 36)) none, type := 55, pos := "ref.go:93", after := #[{ on := 1, ground := Go.Ground.data }, { on := 2, ground := Go.Ground.data }], guard := none }) hI (by kernel_rfl) (by kernel_rfl) rfl ?_ ?_
      rotate_left
      · intro bA hb W hI KR hKR
        have e35 := hb 35
        have e36 := hb 36
        simp only [List.getElem?_toArray, List.getElem?_cons_succ, List.getElem?_cons_zero] at e35 e36
        clear hb
        refine wp_run (exec_slice_hi (k := i) Try.underlying55 sz34 rfl (ev_tmp e35) (ev_tmp e36) hic) ?_
        exact hKR _ (hX.refl _)
      (try simp only [Act.put, List.setIfInBounds_toArray, List.set_cons_zero, List.set_cons_succ])
      refine c_val hX (v := ?_) 5 ({ dst := some 39, op := Go.Op.load 34 (Go.Operand.tmp 3), type := 34, pos := "ref.go:93", after := #[], guard := none }) hI (by kernel_rfl) (by kernel_rfl) rfl ?_ ?_
      rotate_left
      · intro bA hb W hI KR hKR
        have e3 := hb 3
        simp only [List.getElem?_toArray, List.getElem?_cons_succ, List.getElem?_cons_zero] at e3
        clear hb
        refine wp_load_mid 34 (.tmp 3) rfl w.heap.size (0) (by simp [Act.eval, e3]) (SS s).toList _ (range_below hI HC.out) Try.underlying34 rfl (info34 _) ?_
        exact hKR _ (hX.refl _)
      (try simp only [Act.put, List.setIfInBounds_toArray, List.set_cons_zero, List.set_cons_succ])
      refine c_val hX (v := ?_) 8 ({ dst := some 42, op := Go.Op.move (Go.Operand.tmp 0), type := 55, pos := "ref.go:93", after := #[], guard := none }) hI (by kernel_rfl) (by kernel_rfl) rfl ?_ ?_
      rotate_left
      · intro bA hb W hI KR hKR
        have e0 := hb 0
        simp only [List.getElem?_toArray, List.getElem?_cons_succ, List.getElem?_cons_zero] at e0
        clear hb
        go_simp
        exact hKR _ (Gr.refl _)
      (try simp only [Act.put, List.setIfInBounds_toArray, List.set_cons_zero, List.set_cons_succ])
      refine c_val hX (v := ?_) 9 ({ dst := some 43, op := Go.Op.move (Go.Operand.tmp 5), type := 3, pos := "ref.go:93", after := #[], guard := none }) hI (by kernel_rfl) (by kernel_rfl) rfl ?_ ?_
      rotate_left
      · intro bA hb W hI KR hKR
        have e5 := hb 5
        simp only [List.getElem?_toArray, List.getElem?_cons_succ, List.getElem?_cons_zero] at e5
        clear hb
        go_simp
        exact hKR _ (Gr.refl _)
      (try simp only [Act.put, List.setIfInBounds_toArray, List.set_cons_zero, List.set_cons_succ])
      refine c_val hX (v := ?_) 10 ({ dst := some 44, op := Go.Op.slice 55 (Go.Operand.tmp 42) (some (Go.Operand.tmp 43)) none none, type := 55, pos := "ref.go:93", after := #[{ on := 8, ground := Go.Ground.data }, { on := 9, ground := Go.Ground.data }], guard := none }) hI (by kernel_rfl) (by kernel_rfl) rfl ?_ ?_
      rotate_left
      · intro bA hb W hI KR hKR
        have e42 := hb 42
        have e43 := hb 43
        simp only [List.getElem?_toArray, List.getElem?_cons_succ, List.getElem?_cons_zero] at e42 e43
        clear hb
        refine wp_run (exec_slice_lo (k := i) Try.underlying55 sz34 rfl (ev_tmp e42) (ev_tmp e43) hiN) ?_
        exact hKR _ (hX.refl _)
      (try simp only [Act.put, List.setIfInBounds_toArray, List.set_cons_zero, List.set_cons_succ])
      refine c_two 0 6 ({ dst := some 34, op := Go.Op.buildSlice 55 0 #[], type := 55, pos := "ref.go:93", after := #[], guard := none }) ({ dst := some 40, op := Go.Op.buildSlice 55 1 #[(0, Go.Operand.tmp 39)], type := 55, pos := "ref.go:93", after := #[{ on := 5, ground := Go.Ground.data }], guard := none }) (by kernel_rfl) (by kernel_rfl) (by kernel_rfl) rfl rfl ?_ ?_
      · intro bA hb W hW KR hKR
        clear hb
        have hIW := hX.keep hI hW
        clear hI
        replace HM := Lib.hid (HM.out.up hW)
        go_simp
        have hI := below_alloc hIW (.cells #[] 34)
        refine hKR _ _ hI ?_
        replace HM := Lib.hid HM.out.one
        (try clear hW)
        (try clear hIW)
        (try simp only [Act.put, List.setIfInBounds_toArray, List.set_cons_zero, List.set_cons_succ])
        refine c_two 4 6 ({ dst := some 38, op := Go.Op.call { callee := Go.Callee.builtin Go.Builtin.append, args := #[Go.Operand.tmp 34, Go.Operand.tmp 37], argTypes := #[55, 55] }, type := 55, pos := "ref.go:93", after := #[{ on := 0, ground := Go.Ground.data }, { on := 3, ground := Go.Ground.data }], guard := none }) ({ dst := some 40, op := Go.Op.buildSlice 55 1 #[(0, Go.Operand.tmp 39)], type := 55, pos := "ref.go:93", after := #[{ on := 5, ground := Go.Ground.data }], guard := none }) (by kernel_rfl) (by kernel_rfl) (by kernel_rfl) rfl rfl ?_ ?_
        · intro bA hb W hW KR hKR
          have e34 := hb 34
          have e37 := hb 37
          simp only [List.getElem?_toArray, List.getElem?_cons_succ, List.getElem?_cons_zero] at e34 e37
          clear hb
          have hIW := hX.keep hI hW
          clear hI
          replace HM := Lib.hid (HM.out.up hW)
          obtain ⟨v2, W2, r2, m2, b2⟩ := HM.out.app ((H0.out.below hIW).take hil) (HZz.out.hi hic) HL1.out
          refine wp_app (.tmp 34) (.tmp 37) rfl rfl (ev_tmp e34) (ev_tmp e37) r2 ?_
          have hI := b2 W0 (Nat.le_refl _) hIW
          refine hKR _ _ hI ?_
          replace HM := Lib.hid m2
          clear r2 m2 b2
          (try clear hW)
          (try clear hIW)
          (try simp only [Act.put, List.setIfInBounds_toArray, List.set_cons_zero, List.set_cons_succ])
          refine c_main 6 ({ dst := some 40, op := Go.Op.buildSlice 55 1 #[(0, Go.Operand.tmp 39)], type := 55, pos := "ref.go:93", after := #[{ on := 5, ground := Go.Ground.data }], guard := none }) (by kernel_rfl) (by kernel_rfl) rfl ?_
          intro bA hb W hW KR hKR
          have e39 := hb 39
          simp only [List.getElem?_toArray, List.getElem?_cons_succ, List.getElem?_cons_zero] at e39
          clear hb
          have hIW := hX.keep hI hW
          clear hI
          replace HM := Lib.hid (HM.out.up hW)
          refine wp_run (exec_buildSlice (l := [(0, .tmp 39)]) rfl (by simp only [List.map_cons, List.map_nil, Act.eval, Array.getD_eq_getD_getElem?, e39, Option.getD_some]; exact bs55 s W)) ?_
          have hI := below_alloc hIW (.cells (SS s) 34)
          refine hKR _ _ hI ?_
          replace HM := Lib.hid HM.out.blk
          (try clear hW)
          (try clear hIW)
          (try simp only [Act.put, List.setIfInBounds_toArray, List.set_cons_zero, List.set_cons_succ])
          refine c_main 7 ({ dst := some 41, op := Go.Op.call { callee := Go.Callee.builtin Go.Builtin.append, args := #[Go.Operand.tmp 38, Go.Operand.tmp 40], argTypes := #[55, 55] }, type := 55, pos := "ref.go:93", after := #[{ on := 4, ground := Go.Ground.data }, { on := 6, ground := Go.Ground.data }, { on := 4, ground := Go.Ground.chain }], guard := none }) (by kernel_rfl) (by kernel_rfl) rfl ?_
          intro bA hb W hW KR hKR
          have e38 := hb 38
          have e40 := hb 40
          simp only [List.getElem?_toArray, List.getElem?_cons_succ, List.getElem?_cons_zero] at e38 e40
          clear hb
          have hIW := hX.keep hI hW
          clear hI
          replace HM := Lib.hid (HM.out.up hW)
          obtain ⟨v3, W3, r3, m3, b3⟩ := HM.out.app2 HL1.out
          refine wp_app (.tmp 38) (.tmp 40) rfl rfl (ev_tmp e38) (ev_tmp e40) r3 ?_
          have hI := b3 W0 (Nat.le_refl _) hIW
          refine hKR _ _ hI ?_
          have HR := Lib.hid m3
          clear r3 m3 b3 HM
          (try clear hW)
          (try clear hIW)
          (try simp only [Act.put, List.setIfInBounds_toArray, List.set_cons_zero, List.set_cons_succ])
          refine c_main 11 ({ dst := some 45, op := Go.Op.call { callee := Go.Callee.builtin Go.Builtin.append, args := #[Go.Operand.tmp 41, Go.Operand.tmp 44], argTypes := #[55, 55] }, type := 55, pos := "ref.go:93", after := #[{ on := 7, ground := Go.Ground.data }, { on := 10, ground := Go.Ground.data }, { on := 7, ground := Go.Ground.chain }], guard := none }) (by kernel_rfl) (by kernel_rfl) rfl ?_
          intro bA hb W hW KR hKR
          have e41 := hb 41
          have e44 := hb 44
          simp only [List.getElem?_toArray, List.getElem?_cons_succ, List.getElem?_cons_zero] at e41 e44
          clear hb
          have hIW := hX.keep hI hW
          clear hI
          replace HR := Lib.hid (pw_own_below HR.out hW)
          obtain ⟨v4, W4, r4, m4, b4, _⟩ := app_rows HR.out ((H0.out.below hIW).drop hil) (HZz.out.lo hiN) hIW.size HL2.out HL3.out
          refine wp_app (.tmp 41) (.tmp 44) rfl rfl (ev_tmp e41) (ev_tmp e44) r4 ?_
          have hI := hIW.grown b4 hIW.size (fun k hk => (own_lt HR.out k hk).1)
          refine hKR _ _ hI ?_
          replace HR := Lib.hid m4
          clear r4 m4 b4
          (try clear hW)
          (try clear hIW)
          (try simp only [Act.put, List.setIfInBounds_toArray, List.set_cons_zero, List.set_cons_succ])
          refine c_val hX (v := ?_) 12 ({ dst := some 4, op := Go.Op.assign (Go.Operand.tmp 45), type := 55, pos := "ref.go:93", after := #[{ on := 11, ground := Go.Ground.data }, { on := 11, ground := Go.Ground.chain }, { on := 0, ground := Go.Ground.phase }, { on := 1, ground := Go.Ground.phase }, { on := 2, ground := Go.Ground.phase }, { on := 3, ground := Go.Ground.phase }, { on := 4, ground := Go.Ground.phase }, { on := 5, ground := Go.Ground.phase }, { on := 6, ground := Go.Ground.phase }, { on := 7, ground := Go.Ground.phase }, { on := 8, ground := Go.Ground.phase }, { on := 9, ground := Go.Ground.phase }, { on := 10, ground := Go.Ground.phase }, { on := 11, ground := Go.Ground.phase }], guard := none }) hI (by kernel_rfl) (by kernel_rfl) rfl ?_ ?_
          rotate_left
          · intro bA hb W hI KR hKR
            have e45 := hb 45
            simp only [List.getElem?_toArray, List.getElem?_cons_succ, List.getElem?_cons_zero] at e45
            clear hb
            go_simp
            exact hKR _ (Gr.refl _)
          (try simp only [Act.put, List.setIfInBounds_toArray, List.set_cons_zero, List.set_cons_succ])
          refine c_done (by kernel_rfl) ?_
          intro w4 hW
          refine hQ' _ _ ?_
          have hI := hX.keep hI hW
          clear hQ' hX
          go_wp2
          all_goals
            go_ret
            refine ⟨_, rfl, ?_, bel HB0.out hI⟩
            rw [HW.out]
            exact own_base (pw_own_below HR.out hW) (Nat.le_trans hb'.out HB0.out.size)
        · intro bA hb W hW KR hKR
          have e39 := hb 39
          simp only [List.getElem?_toArray, List.getElem?_cons_succ, List.getElem?_cons_zero] at e39
          clear hb
          have hIW := hX.keep hI hW
          clear hI
          replace HM := Lib.hid (HM.out.up hW)
          refine wp_run (exec_buildSlice (l := [(0, .tmp 39)]) rfl (by simp only [List.map_cons, List.map_nil, Act.eval, Array.getD_eq_getD_getElem?, e39, Option.getD_some]; exact bs55 s W)) ?_
          have hI := below_alloc hIW (.cells (SS s) 34)
          refine hKR _ _ hI ?_
          replace HM := Lib.hid HM.out.blk
          (try clear hW)
          (try clear hIW)
          (try simp only [Act.put, List.setIfInBounds_toArray, List.set_cons_zero, List.set_cons_succ])
          refine c_main 4 ({ dst := some 38, op := Go.Op.call { callee := Go.Callee.builtin Go.Builtin.append, args := #[Go.Operand.tmp 34, Go.Operand.tmp 37], argTypes := #[55, 55] }, type := 55, pos := "ref.go:93", after := #[{ on := 0, ground := Go.Ground.data }, { on := 3, ground := Go.Ground.data }], guard := none }) (by kernel_rfl) (by kernel_rfl) rfl ?_
          intro bA hb W hW KR hKR
          have e34 := hb 34
          have e37 := hb 37
          simp only [List.getElem?_toArray, List.getElem?_cons_succ, List.getElem?_cons_zero] at e34 e37
          clear hb
          have hIW := hX.keep hI hW
          clear hI
          replace HM := Lib.hid (HM.out.up hW)
          obtain ⟨v2, W2, r2, m2, b2⟩ := HM.out.app ((H0.out.below hIW).take hil) (HZz.out.hi hic) HL1.out
          refine wp_app (.tmp 34) (.tmp 37) rfl rfl (ev_tmp e34) (ev_tmp e37) r2 ?_
          have hI := b2 W0 (Nat.le_refl _) hIW
          refine hKR _ _ hI ?_
          replace HM := Lib.hid m2
          clear r2 m2 b2
          (try clear hW)
          (try clear hIW)
          (try simp only [Act.put, List.setIfInBounds_toArray, List.set_cons_zero, List.set_cons_succ])
          refine c_main 7 ({ dst := some 41, op := Go.Op.call { callee := Go.Callee.builtin Go.Builtin.append, args := #[Go.Operand.tmp 38, Go.Operand.tmp 40], argTypes := #[55, 55] }, type := 55, pos := "ref.go:93", after := #[{ on := 4, ground := Go.Ground.data }, { on := 6, ground := Go.Ground.data }, { on := 4, ground := Go.Ground.chain }], guard := none }) (by kernel_rfl) (by kernel_rfl) rfl ?_
          intro bA hb W hW KR hKR
          have e38 := hb 38
          have e40 := hb 40
          simp only [List.getElem?_toArray, List.getElem?_cons_succ, List.getElem?_cons_zero] at e38 e40
          clear hb
          have hIW := hX.keep hI hW
          clear hI
          replace HM := Lib.hid (HM.out.up hW)
          obtain ⟨v3, W3, r3, m3, b3⟩ := HM.out.app2 HL1.out
          refine wp_app (.tmp 38) (.tmp 40) rfl rfl (ev_tmp e38) (ev_tmp e40) r3 ?_
          have hI := b3 W0 (Nat.le_refl _) hIW
          refine hKR _ _ hI ?_
          have HR := Lib.hid m3
          clear r3 m3 b3 HM
          (try clear hW)
          (try clear hIW)
          (try simp only [Act.put, List.setIfInBounds_toArray, List.set_cons_zero, List.set_cons_succ])
          refine c_main 11 ({ dst := some 45, op := Go.Op.call { callee := Go.Callee.builtin Go.Builtin.append, args := #[Go.Operand.tmp 41, Go.Operand.tmp 44], argTypes := #[55, 55] }, type := 55, pos := "ref.go:93", after := #[{ on := 7, ground := Go.Ground.data }, { on := 10, ground := Go.Ground.data }, { on := 7, ground := Go.Ground.chain }], guard := none }) (by kernel_rfl) (by kernel_rfl) rfl ?_
          intro bA hb W hW KR hKR
          have e41 := hb 41
          have e44 := hb 44
          simp only [List.getElem?_toArray, List.getElem?_cons_succ, List.getElem?_cons_zero] at e41 e44
          clear hb
          have hIW := hX.keep hI hW
          clear hI
          replace HR := Lib.hid (pw_own_below HR.out hW)
          obtain ⟨v4, W4, r4, m4, b4, _⟩ := app_rows HR.out ((H0.out.below hIW).drop hil) (HZz.out.lo hiN) hIW.size HL2.out HL3.out
          refine wp_app (.tmp 41) (.tmp 44) rfl rfl (ev_tmp e41) (ev_tmp e44) r4 ?_
          have hI := hIW.grown b4 hIW.size (fun k hk => (own_lt HR.out k hk).1)
          refine hKR _ _ hI ?_
          replace HR := Lib.hid m4
          clear r4 m4 b4
          (try clear hW)
          (try clear hIW)
          (try simp only [Act.put, List.setIfInBounds_toArray, List.set_cons_zero, List.set_cons_succ])
          refine c_val hX (v := ?_) 12 ({ dst := some 4, op := Go.Op.assign (Go.Operand.tmp 45), type := 55, pos := "ref.go:93", after := #[{ on := 11, ground := Go.Ground.data }, { on := 11, ground := Go.Ground.chain }, { on := 0, ground := Go.Ground.phase }, { on := 1, ground := Go.Ground.phase }, { on := 2, ground := Go.Ground.phase }, { on := 3, ground := Go.Ground.phase }, { on := 4, ground := Go.Ground.phase }, { on := 5, ground := Go.Ground.phase }, { on := 6, ground := Go.Ground.phase }, { on := 7, ground := Go.Ground.phase }, { on := 8, ground := Go.Ground.phase }, { on := 9, ground := Go.Ground.phase }, { on := 10, ground := Go.Ground.phase }, { on := 11, ground := Go.Ground.phase }], guard := none }) hI (by kernel_rfl) (by kernel_rfl) rfl ?_ ?_
          rotate_left
          · intro bA hb W hI KR hKR
            have e45 := hb 45
            simp only [List.getElem?_toArray, List.getElem?_cons_succ, List.getElem?_cons_zero] at e45
            clear hb
            go_simp
            exact hKR _ (Gr.refl _)
          (try simp only [Act.put, List.setIfInBounds_toArray, List.set_cons_zero, List.set_cons_succ])
          refine c_done (by kernel_rfl) ?_
          intro w4 hW
          refine hQ' _ _ ?_
          have hI := hX.keep hI hW
          clear hQ' hX
          go_wp2
          all_goals
            go_ret
            refine ⟨_, rfl, ?_, bel HB0.out hI⟩
            rw [HW.out]
            exact own_base (pw_own_below HR.out hW) (Nat.le_trans hb'.out HB0.out.size)
      · intro bA hb W hW KR hKR
        have e39 := hb 39
        simp only [List.getElem?_toArray, List.getElem?_cons_succ, List.getElem?_cons_zero] at e39
        clear hb
        have hIW := hX.keep hI hW
        clear hI
        replace HM := Lib.hid (HM.out.up hW)
        refine wp_run (exec_buildSlice (l := [(0, .tmp 39)]) rfl (by simp only [List.map_cons, List.map_nil, Act.eval, Array.getD_eq_getD_getElem?, e39, Option.getD_some]; exact bs55 s W)) ?_
        have hI := below_alloc hIW (.cells (SS s) 34)
        refine hKR _ _ hI ?_
        replace HM := Lib.hid HM.out.blk
        (try clear hW)
        (try clear hIW)
        (try simp only [Act.put, List.setIfInBounds_toArray, List.set_cons_zero, List.set_cons_succ])
        refine c_main 0 ({ dst := some 34, op := Go.Op.buildSlice 55 0 #[], type := 55, pos := "ref.go:93", after := #[], guard := none }) (by kernel_rfl) (by kernel_rfl) rfl ?_
        intro bA hb W hW KR hKR
        clear hb
        have hIW := hX.keep hI hW
        clear hI
        replace HM := Lib.hid (HM.out.up hW)
        go_simp
        have hI := below_alloc hIW (.cells #[] 34)
        refine hKR _ _ hI ?_
        replace HM := Lib.hid HM.out.one
        (try clear hW)
        (try clear hIW)
        (try simp only [Act.put, List.setIfInBounds_toArray, List.set_cons_zero, List.set_cons_succ])
        refine c_main 4 ({ dst := some 38, op := Go.Op.call { callee := Go.Callee.builtin Go.Builtin.append, args := #[Go.Operand.tmp 34, Go.Operand.tmp 37], argTypes := #[55, 55] }, type := 55, pos := "ref.go:93", after := #[{ on := 0, ground := Go.Ground.data }, { on := 3, ground := Go.Ground.data }], guard := none }) (by kernel_rfl) (by kernel_rfl) rfl ?_
        intro bA hb W hW KR hKR
        have e34 := hb 34
        have e37 := hb 37
        simp only [List.getElem?_toArray, List.getElem?_cons_succ, List.getElem?_cons_zero] at e34 e37
        clear hb
        have hIW := hX.keep hI hW
        clear hI
        replace HM := Lib.hid (HM.out.up hW)
        obtain ⟨v2, W2, r2, m2, b2⟩ := HM.out.app ((H0.out.below hIW).take hil) (HZz.out.hi hic) HL1.out
        refine wp_app (.tmp 34) (.tmp 37) rfl rfl (ev_tmp e34) (ev_tmp e37) r2 ?_
        have hI := b2 W0 (Nat.le_refl _) hIW
        refine hKR _ _ hI ?_
        replace HM := Lib.hid m2
        clear r2 m2 b2
        (try clear hW)
        (try clear hIW)
        (try simp only [Act.put, List.setIfInBounds_toArray, List.set_cons_zero, List.set_cons_succ])
        refine c_main 7 ({ dst := some 41, op := Go.Op.call { callee := Go.Callee.builtin Go.Builtin.append, args := #[Go.Operand.tmp 38, Go.Operand.tmp 40], argTypes := #[55, 55] }, type := 55, pos := "ref.go:93", after := #[{ on := 4, ground := Go.Ground.data }, { on := 6, ground := Go.Ground.data }, { on := 4, ground := Go.Ground.chain }], guard := none }) (by kernel_rfl) (by kernel_rfl) rfl ?_
        intro bA hb W hW KR hKR
        have e38 := hb 38
        have e40 := hb 40
        simp only [List.getElem?_toArray, List.getElem?_cons_succ, List.getElem?_cons_zero] at e38 e40
        clear hb
        have hIW := hX.keep hI hW
        clear hI
        replace HM := Lib.hid (HM.out.up hW)
        obtain ⟨v3, W3, r3, m3, b3⟩ := HM.out.app2 HL1.out
        refine wp_app (.tmp 38) (.tmp 40) rfl rfl (ev_tmp e38) (ev_tmp e40) r3 ?_
        have hI := b3 W0 (Nat.le_refl _) hIW
        refine hKR _ _ hI ?_
        have HR := Lib.hid m3
        clear r3 m3 b3 HM
        (try clear hW)
        (try clear hIW)
        (try simp only [Act.put, List.setIfInBounds_toArray, List.set_cons_zero, List.set_cons_succ])
        refine c_main 11 ({ dst := some 45, op := Go.Op.call { callee := Go.Callee.builtin Go.Builtin.append, args := #[Go.Operand.tmp 41, Go.Operand.tmp 44], argTypes := #[55, 55] }, type := 55, pos := "ref.go:93", after := #[{ on := 7, ground := Go.Ground.data }, { on := 10, ground := Go.Ground.data }, { on := 7, ground := Go.Ground.chain }], guard := none }) (by kernel_rfl) (by kernel_rfl) rfl ?_
        intro bA hb W hW KR hKR
        have e41 := hb 41
        have e44 := hb 44
        simp only [List.getElem?_toArray, List.getElem?_cons_succ, List.getElem?_cons_zero] at e41 e44
        clear hb
        have hIW := hX.keep hI hW
        clear hI
        replace HR := Lib.hid (pw_own_below HR.out hW)
        obtain ⟨v4, W4, r4, m4, b4, _⟩ := app_rows HR.out ((H0.out.below hIW).drop hil) (HZz.out.lo hiN) hIW.size HL2.out HL3.out
        refine wp_app (.tmp 41) (.tmp 44) rfl rfl (ev_tmp e41) (ev_tmp e44) r4 ?_
        have hI := hIW.grown b4 hIW.size (fun k hk => (own_lt HR.out k hk).1)
        refine hKR _ _ hI ?_
        replace HR := Lib.hid m4
        clear r4 m4 b4
        (try clear hW)
        (try clear hIW)
        (try simp only [Act.put, List.setIfInBounds_toArray, List.set_cons_zero, List.set_cons_succ])
        refine c_val hX (v := ?_) 12 ({ dst := some 4, op := Go.Op.assign (Go.Operand.tmp 45), type := 55, pos := "ref.go:93", after := #[{ on := 11, ground := Go.Ground.data }, { on := 11, ground := Go.Ground.chain }, { on := 0, ground := Go.Ground.phase }, { on := 1, ground := Go.Ground.phase }, { on := 2, ground := Go.Ground.phase }, { on := 3, ground := Go.Ground.phase }, { on := 4, ground := Go.Ground.phase }, { on := 5, ground := Go.Ground.phase }, { on := 6, ground := Go.Ground.phase }, { on := 7, ground := Go.Ground.phase }, { on := 8, ground := Go.Ground.phase }, { on := 9, ground := Go.Ground.phase }, { on := 10, ground := Go.Ground.phase }, { on := 11, ground := Go.Ground.phase }], guard := none }) hI (by kernel_rfl) (by kernel_rfl) rfl ?_ ?_
        rotate_left
        · intro bA hb W hI KR hKR
          have e45 := hb 45
          simp only [List.getElem?_toArray, List.getElem?_cons_succ, List.getElem?_cons_zero] at e45
          clear hb
          go_simp
          exact hKR _ (Gr.refl _)
        (try simp only [Act.put, List.setIfInBounds_toArray, List.set_cons_zero, List.set_cons_succ])
        refine c_done (by kernel_rfl) ?_
        intro w4 hW
        refine hQ' _ _ ?_
        have hI := hX.keep hI hW
        clear hQ' hX
        go_wp2
        all_goals
          go_ret
          refine ⟨_, rfl, ?_, bel HB0.out hI⟩
          rw [HW.out]
          exact own_base (pw_own_below HR.out hW) (Nat.le_trans hb'.out HB0.out.size)
noncomputable def rowF (out : List St) (ss : List St) : List St := ss.foldl withL out
noncomputable def rmergeF (out : List St) (ls : List (List St)) : List St := ls.foldl rowF out
theorem rowF_len : ∀ (ss out : List St), (rowF out ss).length ≤ out.length + ss.length
  | [], out => by simp [rowF]
  | s :: ss, out => by
    have h1 := rowF_len ss (withL out s)
    have h2 := withL_len out s
    simp only [rowF, List.foldl_cons, List.length_cons] at *
    omega
theorem rmergeF_len : ∀ (ls : List (List St)) (out : List St), (rmergeF out ls).length ≤ out.length + ls.flatten.length
  | [], out => by simp [rmergeF]
  | ss :: ls, out => by
    have h1 := rmergeF_len ls (rowF out ss)
    have h2 := rowF_len ss out
    simp only [rmergeF, List.foldl_cons, List.flatten_cons, List.length_append] at *
    omega
/-- What stands behind i rows and j stamps of the next one. -/
noncomputable def upto (ls : List (List St)) (i j : Nat) : List St := rowF (rmergeF [] (ls.take i)) ((ls.getD i []).take j)
theorem upto_row (ls : List (List St)) (i : Nat) (h : i < ls.length) : upto ls i (ls.getD i []).length = upto ls (i + 1) 0 := by
  unfold upto
  rw [List.take_length, List.take_zero, List.take_succ_eq_append_getElem h, List.getD_eq_getElem?_getD, List.getElem?_eq_getElem h]
  simp only [rmergeF, rowF, List.foldl_append, List.foldl_cons, List.foldl_nil, Option.getD_some]
theorem upto_next (ls : List (List St)) (i j : Nat) (s : St) (h : (ls.getD i [])[j]? = some s) : upto ls i (j + 1) = withL (upto ls i j) s := by
  unfold upto
  have hj := (List.getElem?_eq_some_iff.1 h).1
  have he := (List.getElem?_eq_some_iff.1 h).2
  rw [List.take_succ_eq_append_getElem hj, he]
  simp only [rowF, List.foldl_append, List.foldl_cons, List.foldl_nil]
theorem upto_end (ls : List (List St)) : upto ls ls.length 0 = rmergeF [] ls := by
  unfold upto
  simp [rowF]
theorem upto_len (ls : List (List St)) (i j : Nat) : (upto ls i j).length ≤ ls.flatten.length := by
  have h1 := rowF_len ((ls.getD i []).take j) (rmergeF [] (ls.take i))
  have h2 := rmergeF_len (ls.take i) []
  unfold upto
  rcases Nat.lt_or_ge i ls.length with h | h
  · have e : ls = ls.take i ++ (ls.getD i [] :: ls.drop (i + 1)) := by
      rw [List.getD_eq_getElem?_getD, List.getElem?_eq_getElem h]
      simp
    have h3 : ls.flatten.length = (ls.take i).flatten.length + ((ls.getD i []).length + (ls.drop (i + 1)).flatten.length) := by
      conv => lhs; rw [e]
      simp
    have h4 : ((ls.getD i []).take j).length ≤ (ls.getD i []).length := by simp; omega
    simp only [List.length_nil] at h2
    omega
  · rw [List.getD_eq_getElem?_getD, List.getElem?_eq_none h] at *
    rw [List.take_of_length_le h] at *
    simp at *
    omega
set_option maxRecDepth 10000 in
set_option maxHeartbeats 4000000 in
theorem rmerge_any (v0 : Value) (ls : List (List St)) (w : World) (h : Rows2 w v0 ls) (htot : ls.flatten.length ≤ 90000) (hN : ls.length ≤ 1000000) (hM : ∀ l ∈ ls, l.length ≤ 1000000) :
    Calls Try.prog 21 #[v0] w fun e w' => ∃ v, e = .returned v ∧ w'.ownsRow w.heap.size 34 2 v (rmergeF [] ls).length (cellsS (rmergeF [] ls)) ∧ Below w.heap.size w w' := by
  have H := Lib.hid h
  obtain ⟨A, c, rfl, k1, r1⟩ := h
  obtain ⟨N, hN'⟩ : ∃ N, N = ls.length := ⟨_, rfl⟩
  have HN := Lib.hid hN'
  have R1 := Lib.hid r1
  have HM := Lib.hid hM
  have HT := Lib.hid htot
  rw [← hN'] at k1 hN ⊢
  clear hN' r1 hM htot H
  go_enter Try.func21, Try.ntmps21
  go_wp2
  go_loopw [3, 4] (fun p n wr => ∃ (i : Nat), n = .int .i64 i ∧ i ≤ N ∧ Hid (wr.ownsRow w.heap.size 34 2 p (upto ls i 0).length (cellsS (upto ls i 0))) ∧ Hid (Below w.heap.size w wr)) (fun _ n _ => N - (intOf n).toNat)
  case atStart => exact ⟨0, rfl, by omega, Lib.hid ⟨rfl, .inl ⟨rfl, rfl⟩⟩, Lib.hid (Below.refl _ _)⟩
  case round =>
    obtain ⟨i, rfl, hi, HO, HB⟩ := hrel
    by_cases q : i < N
    · obtain ⟨g, o, rfl, r1⟩ := R1.out (by rw [← HN.out]; omega)
      obtain ⟨ss, hss⟩ : ∃ ss, ls[i]? = some ss := ⟨_, List.getElem?_eq_getElem (by rw [← HN.out]; omega)⟩
      obtain ⟨u, hu, hru⟩ := r1 i ss hss
      obtain ⟨A2, c2, rfl, k2, r2⟩ := hru
      have hgd : ls.getD i [] = ss := by rw [List.getD_eq_getElem?_getD, hss]; rfl
      have HG := Lib.hid hgd
      have HS := Lib.hid (HM.out ss (List.mem_of_getElem? hss))
      obtain ⟨M, hM'⟩ : ∃ M, M = ss.length := ⟨_, rfl⟩
      have HMM := Lib.hid hM'
      have R2 := Lib.hid r2
      rw [← hM'] at k2 hu
      have HU := Lib.hid hu
      have hM2 : M ≤ 1000000 := by rw [hM']; exact HS.out
      clear r1 hu r2 hgd hM' hss
      go_wp2
      go_loopw [3, 5] (fun p n wr => ∃ (j : Nat), n = .int .i64 j ∧ j ≤ M ∧ Hid (wr.ownsRow w.heap.size 34 2 p (upto ls i j).length (cellsS (upto ls i j))) ∧ Hid (Below w.heap.size w wr)) (fun _ n _ => M - (intOf n).toNat)
      case atStart => exact ⟨0, rfl, by omega, HO, HB⟩
      case round =>
        obtain ⟨j, rfl, hj, HO2, HB2⟩ := hrel
        have HU2 := Lib.hid (cell_below HB2.out HU.out)
        have hu2 := HU2.out
        by_cases q2 : j < M
        · obtain ⟨g2, o2, rfl, r2⟩ := R2.out (by rw [← HMM.out]; omega)
          obtain ⟨s, hs⟩ : ∃ s, ss[j]? = some s := ⟨_, List.getElem?_eq_getElem (by rw [← HMM.out]; omega)⟩
          have HX := Lib.hid (range_below HB2.out (r2 j s hs))
          have HSJ := Lib.hid hs
          have hgs : (ls.getD i [])[j]? = some s := by rw [HG.out]; exact hs
          have HGS := Lib.hid hgs
          clear r2 hs hgs
          go_wp2_with (first
            | (refine wpList_load_mid rfl 34 (.tmp 27) rfl g2 (o2 + j * 2) rfl (SS s).toList _ HX.out Try.underlying34 rfl (info34 s) ?_)
            | (go_at_call 37; refine (with_any w.heap.size _ (upto ls i j) s _ HO2.out HB2.out.size (by have := upto_len ls i j; have := HT.out; omega)).mono ?_; rintro e w2 ⟨v2, rfl, hO, hb⟩; have HO3 := Lib.hid hO; have HB3 := Lib.hid (bel HB2.out hb); clear hO hb))
          go_roundw
          case rel => exact ⟨j + 1, by go_num, by omega, Lib.hid (by rw [upto_next ls i j s HGS.out]; exact HO3.out), HB3⟩
          case measure =>
            simp [intOf]
            omega
        · obtain rfl : j = M := by omega
          go_wp2
          go_roundw
          case rel =>
            refine ⟨i + 1, by go_num, by omega, Lib.hid ?_, HB2⟩
            have := upto_row ls i (by rw [← HN.out]; exact q)
            rw [HG.out, ← HMM.out] at this
            rw [← this]
            exact HO2.out
          case measure =>
            simp [intOf]
            omega
    · obtain rfl : i = N := by omega
      go_wp2
      go_ret
      refine ⟨_, rfl, ?_, HB.out⟩
      have := HO.out
      rw [show upto ls i 0 = rmergeF [] ls from by rw [HN.out]; exact upto_end ls] at this
      exact this
end Go.Proofs.Ytndfoohdoadkfaa
