/- The document's answer: Compare, Before, Rising. -/
import Derived.Test.YtndfoohdoadkfaaQV
import Derived.Test.YtndfoohdoadkfaaRun
set_option linter.unusedVariables false
set_option linter.unusedSimpArgs false
namespace Go.Proofs.Ytndfoohdoadkfaa
open Go.RowKit
theorem exec_eql34 {ρ : Operand → Value} {o : Oper} {x y : Operand} {t : TypeId} {p q : St} {w : World} (ho : o.op = .binOp .eql 34 x y t) (hx : ρ x = .agg (SS p)) (hy : ρ y = .agg (SS q)) : (execOp ρ o).run Try.prog w = .ok (.value (.bool (decide (p = q)))) w := by
  have hb : (binOp .eql 34 (.agg (SS p)) (.agg (SS q))).run Try.prog w = .ok (.bool (decide (p = q))) w := by
    show (do pure (Value.bool (← Op.equal 34 (.agg (SS p)) (.agg (SS q)))) : Sem Value).run Try.prog w = _
    have := eqS_is p q w
    simp only [Op.equal, Sem.run_bind]
    rw [show Op.maxDepth = 10000 from rfl, this]
    rfl
  simp only [execOp, ho, hx, hy, Sem.run_bind, guard34, Result.andThen_ok, hb, Sem.run_pure]
set_option maxHeartbeats 1000000 in
theorem rcmp_any (a b : It) (w : World) : Calls Try.prog 39 #[.agg #[.int .i64 a.t, .int .i64 a.r], .agg #[.int .i64 b.t, .int .i64 b.r]] w fun e w' => e = .returned (.int .i64 (cmpS a b)) ∧ Below w.heap.size w w' := by
  obtain ⟨t, r, g⟩ := a
  obtain ⟨t', r', g'⟩ := b
  have hu34 := Try.underlying34
  go_enter Try.func39, Try.ntmps39
  by_cases q : t = t'
  · subst q
    go_wp2
    all_goals
      go_ret
      exact ⟨ret_int (by simp_all [cmpS] <;> omega), by (repeat (first | with_reducible exact Below.refl _ _ | with_reducible apply below_alloc | with_reducible apply below_drew1 | with_reducible assumption | (with_reducible refine Keep.below (by assumption)) | (with_reducible refine bel ?_ (by assumption)) | ((with_reducible refine below_set ?_ ?_); rotate_left; (focus (first | assumption | omega | (simp; done) | (simp; omega))))))⟩
  · go_wp2
    all_goals
      go_ret
      exact ⟨ret_int (by simp_all [cmpS] <;> omega), by (repeat (first | with_reducible exact Below.refl _ _ | with_reducible apply below_alloc | with_reducible apply below_drew1 | with_reducible assumption | (with_reducible refine Keep.below (by assumption)) | (with_reducible refine bel ?_ (by assumption)) | ((with_reducible refine below_set ?_ ?_); rotate_left; (focus (first | assumption | omega | (simp; done) | (simp; omega))))))⟩
set_option maxHeartbeats 1000000 in
theorem rbef_any (a b : It) (w : World) : Calls Try.prog 26 #[.agg (IS a), .agg (IS b)] w fun e w' => e = .returned (.bool (befB a b)) ∧ Below w.heap.size w w' := by
  show Calls Try.prog 26 #[.agg #[.int .i64 a.t, .int .i64 a.r, .int .i64 a.g], .agg #[.int .i64 b.t, .int .i64 b.r, .int .i64 b.g]] w fun e w' => e = .returned (.bool (befB a b)) ∧ Below w.heap.size w w'
  obtain ⟨q, hq⟩ : ∃ q, q = cmpS a b := ⟨_, rfl⟩
  have HQ := Lib.hid hq
  go_enter Try.func26, Try.ntmps26
  go_wp2_with (go_at_call 39; refine (rcmp_any a b _).mono ?_; rintro e w1 ⟨rfl, hb⟩; rw [← HQ.out]; obtain ⟨hc, hf⟩ := ch hb; have hz := hb.size)
  all_goals
    go_ret
    exact ⟨ret_bool (by unfold befB; rw [← HQ.out]; simp_all <;> omega), by (repeat (first | with_reducible exact Below.refl _ _ | with_reducible apply below_alloc | with_reducible apply below_drew1 | with_reducible assumption | (with_reducible refine Keep.below (by assumption)) | (with_reducible refine bel ?_ (by assumption)) | ((with_reducible refine below_set ?_ ?_); rotate_left; (focus (first | assumption | omega | (simp; done) | (simp; omega))))))⟩
set_option maxRecDepth 10000 in
set_option maxHeartbeats 2000000 in
theorem rrising_any (v : Value) (l : List St) (w : World) (h : Row2 w v l) (hl : l.length ≤ 1000000) :
    Calls Try.prog 25 #[v] w fun e w' => e = .returned (.bool (riseB l)) ∧ Below w.heap.size w w' := by
  obtain ⟨A, c, rfl, k1, r1⟩ := h
  obtain ⟨N, hN⟩ : ∃ N, N = l.length := ⟨_, rfl⟩
  have HN := Lib.hid hN
  have R1 := Lib.hid r1
  rw [← hN] at k1 hl ⊢
  clear hN r1
  go_enter Try.func25, Try.ntmps25
  go_wp2
  go_loopw [3] (fun t wr => ∃ (j : Nat), t = .int .i64 (j + 1) ∧ (j + 1 ≤ N ∨ j = 0) ∧ Hid (∀ k a b, k < j → l[k]? = some a → l[k + 1]? = some b → cmpS (toI a) (toI b) < 0) ∧ Hid (Below w.heap.size w wr)) (fun t _ => N - (intOf t).toNat)
  case atStart => exact ⟨0, rfl, .inr rfl, Lib.hid (fun k a b hk => absurd hk (by omega)), Lib.hid (Below.refl _ _)⟩
  case round =>
    obtain ⟨j, rfl, hj, HT, HB⟩ := hrel
    by_cases q2 : j + 1 < N
    · obtain ⟨g, o, rfl, r1⟩ := R1.out (by rw [← HN.out]; omega)
      obtain ⟨a, ha⟩ : ∃ a, l[j]? = some a := ⟨_, List.getElem?_eq_getElem (by rw [← HN.out]; omega)⟩
      obtain ⟨b, hb⟩ : ∃ b, l[j + 1]? = some b := ⟨_, List.getElem?_eq_getElem (by rw [← HN.out]; omega)⟩
      have HX := Lib.hid (r1 j a ha)
      have HY := Lib.hid (r1 (j + 1) b hb)
      have HA := Lib.hid ha
      have HBB := Lib.hid hb
      obtain ⟨z, hz⟩ : ∃ z, cmpS (toI a) (toI b) = z := ⟨_, rfl⟩
      have HZ := Lib.hid hz
      clear r1 ha hb hz hj
      have q3 : ((j : Int) + 1) < N := by omega
      have q4 : IntKind.i64.wrap (j : Int) = (j : Int) := IntWalk.i64_in _ (by omega)
      have q5 : (j : Int) < N := by omega
      go_wp2
      refine run_region (fn := Try.f25) (id := 4) (n := 11) [] (Bw w) Gr (by kernel_rfl) (by kernel_rfl) (by kernel_rfl) (by kernel_rfl) Gr.refl (fun _ _ _ => Gr.trans) (fun _ _ h k => bel h k) ?_
      intro Q' hQ' hX
      have hI : (Bw w) _ := below_drew1 HB.out
      refine c_val hX (v := ?_) 0 ({ dst := some 10, op := Go.Op.move (Go.Operand.tmp 0), type := 55, pos := "ref.go:77", after := #[], guard := none }) hI (by kernel_rfl) (by kernel_rfl) rfl ?_ ?_
      rotate_left
      · intro bA hb W hI KR hKR
        have e0 := hb 0
        simp only [List.getElem?_toArray, List.getElem?_cons_succ, List.getElem?_cons_zero] at e0
        clear hb
        go_simp
        exact hKR _ (Gr.refl _)
      (try simp only [Act.put, List.setIfInBounds_toArray, List.set_cons_zero, List.set_cons_succ])
      refine c_val hX (v := ?_) 1 ({ dst := some 11, op := Go.Op.move (Go.Operand.tmp 3), type := 3, pos := "ref.go:77", after := #[], guard := none }) hI (by kernel_rfl) (by kernel_rfl) rfl ?_ ?_
      rotate_left
      · intro bA hb W hI KR hKR
        have e3 := hb 3
        simp only [List.getElem?_toArray, List.getElem?_cons_succ, List.getElem?_cons_zero] at e3
        clear hb
        go_simp
        exact hKR _ (Gr.refl _)
      (try simp only [Act.put, List.setIfInBounds_toArray, List.set_cons_zero, List.set_cons_succ])
      refine c_val hX (v := ?_) 2 ({ dst := some 12, op := Go.Op.binOp Go.BinOp.sub 3 (Go.Operand.tmp 11) (Go.Operand.const (Go.Value.int Go.IntKind.i64 1)) 3, type := 3, pos := "ref.go:77", after := #[{ on := 1, ground := Go.Ground.data }], guard := none }) hI (by kernel_rfl) (by kernel_rfl) rfl ?_ ?_
      rotate_left
      · intro bA hb W hI KR hKR
        have e11 := hb 11
        simp only [List.getElem?_toArray, List.getElem?_cons_succ, List.getElem?_cons_zero] at e11
        clear hb
        go_simp
        exact hKR _ (Gr.refl _)
      (try simp only [Act.put, List.setIfInBounds_toArray, List.set_cons_zero, List.set_cons_succ])
      refine c_val hX (v := ?_) 3 ({ dst := some 13, op := Go.Op.indexAddr 55 (Go.Operand.tmp 10) (Go.Operand.tmp 12), type := 0, pos := "ref.go:77", after := #[{ on := 0, ground := Go.Ground.data }, { on := 2, ground := Go.Ground.data }], guard := none }) hI (by kernel_rfl) (by kernel_rfl) rfl ?_ ?_
      rotate_left
      · intro bA hb W hI KR hKR
        have e10 := hb 10
        have e12 := hb 12
        simp only [List.getElem?_toArray, List.getElem?_cons_succ, List.getElem?_cons_zero] at e10 e12
        clear hb
        go_simp
        exact hKR _ (Gr.refl _)
      (try simp only [Act.put, List.setIfInBounds_toArray, List.set_cons_zero, List.set_cons_succ])
      refine c_val hX (v := ?_) 4 ({ dst := some 14, op := Go.Op.load 34 (Go.Operand.tmp 13), type := 34, pos := "ref.go:77", after := #[{ on := 3, ground := Go.Ground.data }], guard := none }) hI (by kernel_rfl) (by kernel_rfl) rfl ?_ ?_
      rotate_left
      · intro bA hb W hI KR hKR
        have e13 := hb 13
        simp only [List.getElem?_toArray, List.getElem?_cons_succ, List.getElem?_cons_zero] at e13
        clear hb
        refine wp_load_mid 34 (.tmp 13) rfl g (o + j * 2) (by simp [Act.eval, e13]) (SS a).toList _ (range_below hI HX.out) Try.underlying34 rfl (info34 _) ?_
        exact hKR _ (hX.refl _)
      (try simp only [Act.put, List.setIfInBounds_toArray, List.set_cons_zero, List.set_cons_succ])
      refine c_val hX (v := ?_) 5 ({ dst := some 15, op := Go.Op.move (Go.Operand.tmp 0), type := 55, pos := "ref.go:77", after := #[], guard := none }) hI (by kernel_rfl) (by kernel_rfl) rfl ?_ ?_
      rotate_left
      · intro bA hb W hI KR hKR
        have e0 := hb 0
        simp only [List.getElem?_toArray, List.getElem?_cons_succ, List.getElem?_cons_zero] at e0
        clear hb
        go_simp
        exact hKR _ (Gr.refl _)
      (try simp only [Act.put, List.setIfInBounds_toArray, List.set_cons_zero, List.set_cons_succ])
      refine c_val hX (v := ?_) 6 ({ dst := some 16, op := Go.Op.move (Go.Operand.tmp 3), type := 3, pos := "ref.go:77", after := #[], guard := none }) hI (by kernel_rfl) (by kernel_rfl) rfl ?_ ?_
      rotate_left
      · intro bA hb W hI KR hKR
        have e3 := hb 3
        simp only [List.getElem?_toArray, List.getElem?_cons_succ, List.getElem?_cons_zero] at e3
        clear hb
        go_simp
        exact hKR _ (Gr.refl _)
      (try simp only [Act.put, List.setIfInBounds_toArray, List.set_cons_zero, List.set_cons_succ])
      refine c_val hX (v := ?_) 7 ({ dst := some 17, op := Go.Op.indexAddr 55 (Go.Operand.tmp 15) (Go.Operand.tmp 16), type := 0, pos := "ref.go:77", after := #[{ on := 5, ground := Go.Ground.data }, { on := 6, ground := Go.Ground.data }], guard := none }) hI (by kernel_rfl) (by kernel_rfl) rfl ?_ ?_
      rotate_left
      · intro bA hb W hI KR hKR
        have e15 := hb 15
        have e16 := hb 16
        simp only [List.getElem?_toArray, List.getElem?_cons_succ, List.getElem?_cons_zero] at e15 e16
        clear hb
        go_simp
        exact hKR _ (Gr.refl _)
      (try simp only [Act.put, List.setIfInBounds_toArray, List.set_cons_zero, List.set_cons_succ])
      refine c_val hX (v := ?_) 8 ({ dst := some 18, op := Go.Op.load 34 (Go.Operand.tmp 17), type := 34, pos := "ref.go:77", after := #[{ on := 7, ground := Go.Ground.data }], guard := none }) hI (by kernel_rfl) (by kernel_rfl) rfl ?_ ?_
      rotate_left
      · intro bA hb W hI KR hKR
        have e17 := hb 17
        simp only [List.getElem?_toArray, List.getElem?_cons_succ, List.getElem?_cons_zero] at e17
        clear hb
        refine wp_load_mid 34 (.tmp 17) rfl g (o + (j + 1) * 2) (by simp [Act.eval, e17]) (SS b).toList _ (range_below hI HY.out) Try.underlying34 rfl (info34 _) ?_
        exact hKR _ (hX.refl _)
      (try simp only [Act.put, List.setIfInBounds_toArray, List.set_cons_zero, List.set_cons_succ])
      refine c_val hX (v := ?_) 9 ({ dst := some 19, op := Go.Op.call { callee := Go.Callee.value (Go.Operand.func 39), args := #[Go.Operand.tmp 14, Go.Operand.tmp 18], argTypes := #[34, 34] }, type := 3, pos := "ref.go:77", after := #[{ on := 4, ground := Go.Ground.data }, { on := 8, ground := Go.Ground.data }], guard := none }) hI (by kernel_rfl) (by kernel_rfl) rfl ?_ ?_
      rotate_left
      · intro bA hb W hI KR hKR
        have e14 := hb 14
        have e18 := hb 18
        simp only [List.getElem?_toArray, List.getElem?_cons_succ, List.getElem?_cons_zero] at e14 e18
        clear hb
        go_simp
        go_at_call 39
        refine (rcmp_any (toI a) (toI b) _).mono ?_
        rintro e w1 ⟨rfl, hb⟩
        rw [HZ.out]
        exact hKR _ hb
      (try simp only [Act.put, List.setIfInBounds_toArray, List.set_cons_zero, List.set_cons_succ])
      refine c_val hX (v := ?_) 10 ({ dst := some 20, op := Go.Op.binOp Go.BinOp.geq 3 (Go.Operand.tmp 19) (Go.Operand.const (Go.Value.int Go.IntKind.i64 0)) 3, type := 4, pos := "ref.go:77", after := #[{ on := 9, ground := Go.Ground.data }], guard := none }) hI (by kernel_rfl) (by kernel_rfl) rfl ?_ ?_
      rotate_left
      · intro bA hb W hI KR hKR
        have e19 := hb 19
        simp only [List.getElem?_toArray, List.getElem?_cons_succ, List.getElem?_cons_zero] at e19
        clear hb
        go_simp
        exact hKR _ (Gr.refl _)
      (try simp only [Act.put, List.setIfInBounds_toArray, List.set_cons_zero, List.set_cons_succ])
      refine c_done (by kernel_rfl) ?_
      intro w2 hW
      refine hQ' _ _ ?_
      have hI := hX.keep hI hW
      clear hQ' hX hW
      by_cases hz : 0 ≤ z
      · go_wp2
        go_ret
        exact ⟨ret_bool (by rw [riseB_false (fun hr => by have := hr j a b HA.out HBB.out; rw [HZ.out] at this; omega)]), hI⟩
      · go_wp2
        go_roundw
        case rel =>
          refine ⟨j + 1, by go_num, .inl (by omega), Lib.hid (fun k x y hk hx hy => ?_), Lib.hid hI⟩
          rcases Nat.lt_or_ge k j with h | h
          · exact HT.out k x y h hx hy
          · obtain rfl : k = j := by omega
            have e1 := HA.out
            have e2 := HBB.out
            rw [hx] at e1
            rw [hy] at e2
            injection e1 with e1
            injection e2 with e2
            subst e1 e2
            rw [HZ.out]
            omega
        case measure =>
          simp [intOf]
          omega
    · go_wp2
      go_ret
      exact ⟨ret_bool (by rw [riseB_true (fun k a b ha hb => HT.out k a b (by have := (List.getElem?_eq_some_iff.1 hb).1; rw [← HN.out] at this; omega) ha hb)]), HB.out⟩
set_option maxRecDepth 10000 in
set_option maxHeartbeats 4000000 in
theorem rplace_any (v : Value) (l : List St) (s : St) (w : World) (h : Row2 w v l) (hl : l.length ≤ 1000000) :
    Calls Try.prog 23 #[v, .agg (SS s)] w fun e w' => e = .returned (.tuple #[.int .i64 (if riseB l = true then plc l s else (0 : Nat)), .bool (riseB l && fnd l s)]) ∧ Below w.heap.size w w' := by
  have H := Lib.hid h
  obtain ⟨A, c, rfl, k1, r1⟩ := h
  obtain ⟨N, hN⟩ : ∃ N, N = l.length := ⟨_, rfl⟩
  have HN := Lib.hid hN
  have R1 := Lib.hid r1
  rw [← hN] at k1 hl H ⊢
  clear hN r1
  have HL := Lib.hid (show l.length ≤ 1000000 by rw [← HN.out]; exact hl)
  go_enter Try.func23, Try.ntmps23
  by_cases q : Rise l
  · have hq := riseB_true q
    have HQ := Lib.hid q
    have HQB := Lib.hid hq
    clear q hq
    go_wp2_with (go_at_call 25; refine (rrising_any _ l _ (H.out.below (below_alloc (Below.refl _ _) _)) HL.out).mono ?_; rintro e w1 ⟨rfl, hb⟩; have HB0 := Lib.hid (bel (below_alloc (Below.refl w.heap.size w) (.cells (SS s) 34)) hb); have HC := Lib.hid (range_below hb (range_of_heap (heap_alloc_new w (.cells (SS s) 34)) 0 (SS s).toList (fun j v hv => by simpa using hv))); rw [HQB.out]; clear hb)
    go_loopw [6] (fun t wr => ∃ (i : Nat), t = .int .i64 i ∧ i ≤ N ∧ Hid (∀ k a, k < i → l[k]? = some a → cmpS (toI a) (toI s) < 0) ∧ Hid (Below w1.heap.size w1 wr)) (fun t _ => N - (intOf t).toNat)
    case atStart => exact ⟨0, rfl, by omega, Lib.hid (fun k a hk => absurd hk (by omega)), Lib.hid (Below.refl _ _)⟩
    case round =>
      obtain ⟨i, rfl, hi, HT, HB⟩ := hrel
      have HBw := Lib.hid (bel HB0.out HB.out)
      by_cases q2 : i < N
      · obtain ⟨g, o, rfl, r1⟩ := R1.out (by rw [← HN.out]; omega)
        obtain ⟨a, ha⟩ : ∃ a, l[i]? = some a := ⟨_, List.getElem?_eq_getElem (by rw [← HN.out]; omega)⟩
        have HX := Lib.hid (range_below HB0.out (r1 i a ha))
        have HA := Lib.hid ha
        obtain ⟨z, hz⟩ : ∃ z, cmpS (toI a) (toI s) = z := ⟨_, rfl⟩
        have HZ := Lib.hid hz
        clear r1 ha hz hi
        have q3 : (i : Int) < N := by omega
        go_wp2
        refine run_region (fn := Try.f23) (id := 4) (n := 13) [] (Bw w1) Gr (by kernel_rfl) (by kernel_rfl) (by kernel_rfl) (by kernel_rfl) Gr.refl (fun _ _ _ => Gr.trans) (fun _ _ h k => bel h k) ?_
        intro Q' hQ' hX
        have hI : (Bw w1) _ := below_drew1 HB.out
        refine c_val hX (v := ?_) 0 ({ dst := some 10, op := Go.Op.move (Go.Operand.tmp 6), type := 3, pos := "ref.go:113", after := #[], guard := none }) hI (by kernel_rfl) (by kernel_rfl) rfl ?_ ?_
        rotate_left
        · intro bA hb W hI KR hKR
          have e6 := hb 6
          simp only [List.getElem?_toArray, List.getElem?_cons_succ, List.getElem?_cons_zero] at e6
          clear hb
          go_simp
          exact hKR _ (Gr.refl _)
        (try simp only [Act.put, List.setIfInBounds_toArray, List.set_cons_zero, List.set_cons_succ])
        refine c_val hX (v := ?_) 1 ({ dst := some 11, op := Go.Op.move (Go.Operand.tmp 0), type := 55, pos := "ref.go:113", after := #[], guard := none }) hI (by kernel_rfl) (by kernel_rfl) rfl ?_ ?_
        rotate_left
        · intro bA hb W hI KR hKR
          have e0 := hb 0
          simp only [List.getElem?_toArray, List.getElem?_cons_succ, List.getElem?_cons_zero] at e0
          clear hb
          go_simp
          exact hKR _ (Gr.refl _)
        (try simp only [Act.put, List.setIfInBounds_toArray, List.set_cons_zero, List.set_cons_succ])
        refine c_val hX (v := ?_) 2 ({ dst := some 12, op := Go.Op.call { callee := Go.Callee.builtin Go.Builtin.len, args := #[Go.Operand.tmp 11], argTypes := #[55] }, type := 3, pos := "ref.go:113", after := #[{ on := 1, ground := Go.Ground.data }], guard := none }) hI (by kernel_rfl) (by kernel_rfl) rfl ?_ ?_
        rotate_left
        · intro bA hb W hI KR hKR
          have e11 := hb 11
          simp only [List.getElem?_toArray, List.getElem?_cons_succ, List.getElem?_cons_zero] at e11
          clear hb
          go_simp
          exact hKR _ (Gr.refl _)
        (try simp only [Act.put, List.setIfInBounds_toArray, List.set_cons_zero, List.set_cons_succ])
        refine c_val hX (v := ?_) 3 ({ dst := some 13, op := Go.Op.binOp Go.BinOp.lss 3 (Go.Operand.tmp 10) (Go.Operand.tmp 12) 3, type := 4, pos := "ref.go:113", after := #[{ on := 0, ground := Go.Ground.data }, { on := 2, ground := Go.Ground.data }], guard := none }) hI (by kernel_rfl) (by kernel_rfl) rfl ?_ ?_
        rotate_left
        · intro bA hb W hI KR hKR
          have e10 := hb 10
          have e12 := hb 12
          simp only [List.getElem?_toArray, List.getElem?_cons_succ, List.getElem?_cons_zero] at e10 e12
          clear hb
          go_simp
          exact hKR _ (Gr.refl _)
        (try simp only [Act.put, List.setIfInBounds_toArray, List.set_cons_zero, List.set_cons_succ])
        refine c_val hX (v := ?_) 4 ({ dst := some 14, op := Go.Op.move (Go.Operand.tmp 13), type := 4, pos := "ref.go:113", after := #[{ on := 3, ground := Go.Ground.data }], guard := none }) hI (by kernel_rfl) (by kernel_rfl) rfl ?_ ?_
        rotate_left
        · intro bA hb W hI KR hKR
          have e13 := hb 13
          simp only [List.getElem?_toArray, List.getElem?_cons_succ, List.getElem?_cons_zero] at e13
          clear hb
          go_simp
          exact hKR _ (Gr.refl _)
        (try simp only [Act.put, List.setIfInBounds_toArray, List.set_cons_zero, List.set_cons_succ])
        refine c_val hX (v := ?_) 5 ({ dst := some 15, op := Go.Op.move (Go.Operand.tmp 0), type := 55, pos := "ref.go:113", after := #[{ on := 4, ground := Go.Ground.guard }], guard := some (4, true) }) hI (by kernel_rfl) (by kernel_rfl) (wanted_of (j := 4) (d := 14) rfl (by kernel_rfl) rfl) ?_ ?_
        rotate_left
        · intro bA hb W hI KR hKR
          have e0 := hb 0
          simp only [List.getElem?_toArray, List.getElem?_cons_succ, List.getElem?_cons_zero] at e0
          clear hb
          go_simp
          exact hKR _ (Gr.refl _)
        (try simp only [Act.put, List.setIfInBounds_toArray, List.set_cons_zero, List.set_cons_succ])
        refine c_val hX (v := ?_) 6 ({ dst := some 16, op := Go.Op.move (Go.Operand.tmp 6), type := 3, pos := "ref.go:113", after := #[{ on := 4, ground := Go.Ground.guard }], guard := some (4, true) }) hI (by kernel_rfl) (by kernel_rfl) (wanted_of (j := 4) (d := 14) rfl (by kernel_rfl) rfl) ?_ ?_
        rotate_left
        · intro bA hb W hI KR hKR
          have e6 := hb 6
          simp only [List.getElem?_toArray, List.getElem?_cons_succ, List.getElem?_cons_zero] at e6
          clear hb
          go_simp
          exact hKR _ (Gr.refl _)
        (try simp only [Act.put, List.setIfInBounds_toArray, List.set_cons_zero, List.set_cons_succ])
        refine c_val hX (v := ?_) 7 ({ dst := some 17, op := Go.Op.indexAddr 55 (Go.Operand.tmp 15) (Go.Operand.tmp 16), type := 0, pos := "ref.go:113", after := #[{ on := 5, ground := Go.Ground.data }, { on := 6, ground := Go.Ground.data }, { on := 4, ground := Go.Ground.guard }], guard := some (4, true) }) hI (by kernel_rfl) (by kernel_rfl) (wanted_of (j := 4) (d := 14) rfl (by kernel_rfl) rfl) ?_ ?_
        rotate_left
        · intro bA hb W hI KR hKR
          have e15 := hb 15
          have e16 := hb 16
          simp only [List.getElem?_toArray, List.getElem?_cons_succ, List.getElem?_cons_zero] at e15 e16
          clear hb
          go_simp
          exact hKR _ (Gr.refl _)
        (try simp only [Act.put, List.setIfInBounds_toArray, List.set_cons_zero, List.set_cons_succ])
        refine c_val hX (v := ?_) 8 ({ dst := some 18, op := Go.Op.load 34 (Go.Operand.tmp 17), type := 34, pos := "ref.go:113", after := #[{ on := 7, ground := Go.Ground.data }, { on := 4, ground := Go.Ground.guard }], guard := some (4, true) }) hI (by kernel_rfl) (by kernel_rfl) (wanted_of (j := 4) (d := 14) rfl (by kernel_rfl) rfl) ?_ ?_
        rotate_left
        · intro bA hb W hI KR hKR
          have e17 := hb 17
          simp only [List.getElem?_toArray, List.getElem?_cons_succ, List.getElem?_cons_zero] at e17
          clear hb
          refine wp_load_mid 34 (.tmp 17) rfl g (o + i * 2) (by simp [Act.eval, e17]) (SS a).toList _ (range_below hI HX.out) Try.underlying34 rfl (info34 _) ?_
          exact hKR _ (hX.refl _)
        (try simp only [Act.put, List.setIfInBounds_toArray, List.set_cons_zero, List.set_cons_succ])
        refine c_val hX (v := ?_) 9 ({ dst := some 19, op := Go.Op.load 34 (Go.Operand.tmp 3), type := 34, pos := "ref.go:113", after := #[{ on := 4, ground := Go.Ground.guard }], guard := some (4, true) }) hI (by kernel_rfl) (by kernel_rfl) (wanted_of (j := 4) (d := 14) rfl (by kernel_rfl) rfl) ?_ ?_
        rotate_left
        · intro bA hb W hI KR hKR
          have e3 := hb 3
          simp only [List.getElem?_toArray, List.getElem?_cons_succ, List.getElem?_cons_zero] at e3
          clear hb
          refine wp_load_mid 34 (.tmp 3) rfl w.heap.size (0) (by simp [Act.eval, e3]) (SS s).toList _ (range_below hI HC.out) Try.underlying34 rfl (info34 _) ?_
          exact hKR _ (hX.refl _)
        (try simp only [Act.put, List.setIfInBounds_toArray, List.set_cons_zero, List.set_cons_succ])
        refine c_val hX (v := ?_) 10 ({ dst := some 20, op := Go.Op.call { callee := Go.Callee.value (Go.Operand.func 39), args := #[Go.Operand.tmp 18, Go.Operand.tmp 19], argTypes := #[34, 34] }, type := 3, pos := "ref.go:113", after := #[{ on := 8, ground := Go.Ground.data }, { on := 9, ground := Go.Ground.data }, { on := 4, ground := Go.Ground.chain }, { on := 4, ground := Go.Ground.guard }], guard := some (4, true) }) hI (by kernel_rfl) (by kernel_rfl) (wanted_of (j := 4) (d := 14) rfl (by kernel_rfl) rfl) ?_ ?_
        rotate_left
        · intro bA hb W hI KR hKR
          have e18 := hb 18
          have e19 := hb 19
          simp only [List.getElem?_toArray, List.getElem?_cons_succ, List.getElem?_cons_zero] at e18 e19
          clear hb
          go_simp
          go_at_call 39
          refine (rcmp_any (toI a) (toI s) _).mono ?_
          rintro e w1 ⟨rfl, hb⟩
          rw [HZ.out]
          exact hKR _ hb
        (try simp only [Act.put, List.setIfInBounds_toArray, List.set_cons_zero, List.set_cons_succ])
        refine c_val hX (v := ?_) 11 ({ dst := some 21, op := Go.Op.binOp Go.BinOp.lss 3 (Go.Operand.tmp 20) (Go.Operand.const (Go.Value.int Go.IntKind.i64 0)) 3, type := 4, pos := "ref.go:113", after := #[{ on := 10, ground := Go.Ground.data }, { on := 4, ground := Go.Ground.guard }], guard := some (4, true) }) hI (by kernel_rfl) (by kernel_rfl) (wanted_of (j := 4) (d := 14) rfl (by kernel_rfl) rfl) ?_ ?_
        rotate_left
        · intro bA hb W hI KR hKR
          have e20 := hb 20
          simp only [List.getElem?_toArray, List.getElem?_cons_succ, List.getElem?_cons_zero] at e20
          clear hb
          go_simp
          exact hKR _ (Gr.refl _)
        (try simp only [Act.put, List.setIfInBounds_toArray, List.set_cons_zero, List.set_cons_succ])
        refine c_val hX (v := ?_) 12 ({ dst := some 22, op := Go.Op.pick (Go.Operand.tmp 14) (Go.Operand.tmp 21) (Go.Operand.const (Go.Value.bool false)), type := 4, pos := "ref.go:113", after := #[{ on := 4, ground := Go.Ground.data }, { on := 11, ground := Go.Ground.data }], guard := none }) hI (by kernel_rfl) (by kernel_rfl) rfl ?_ ?_
        rotate_left
        · intro bA hb W hI KR hKR
          have e14 := hb 14
          have e21 := hb 21
          simp only [List.getElem?_toArray, List.getElem?_cons_succ, List.getElem?_cons_zero] at e14 e21
          clear hb
          go_simp
          exact hKR _ (Gr.refl _)
        (try simp only [Act.put, List.setIfInBounds_toArray, List.set_cons_zero, List.set_cons_succ])
        refine c_done (by kernel_rfl) ?_
        intro w2 hW
        refine hQ' _ _ ?_
        have hI := hX.keep hI hW
        clear hQ' hX hW
        by_cases hz : z < 0
        · go_wp2
          go_roundw
          case rel =>
            refine ⟨i + 1, by go_num, by omega, Lib.hid (fun k x hk hx => ?_), Lib.hid hI⟩
            rcases Nat.lt_or_ge k i with h | h
            · exact HT.out k x h hx
            · obtain rfl : k = i := by omega
              have e1 := HA.out
              rw [hx] at e1
              injection e1 with e1
              subst e1
              rw [HZ.out]
              exact hz
          case measure =>
            simp [intOf]
            omega
        · have hp : plc l s = i := plc_is l s i (by rw [← HN.out]; omega) HT.out (fun x hx => by
            have e1 := HA.out
            rw [hx] at e1
            injection e1 with e1
            subst e1
            rw [HZ.out]
            exact hz)
          have hfn : fnd l s = decide (a = s) := by
            unfold fnd
            rw [hp, HA.out]
            simp
          have HP := Lib.hid hp
          have HF := Lib.hid hfn
          clear hp hfn
          have HI := Lib.hid hI
          go_wp2
          refine run_region (fn := Try.f23) (id := 6) (n := 15) [] (Bw w1) Gr (by kernel_rfl) (by kernel_rfl) (by kernel_rfl) (by kernel_rfl) Gr.refl (fun _ _ _ => Gr.trans) (fun _ _ h k => bel h k) ?_
          intro Q' hQ' hX
          have hI : (Bw w1) _ := below_drew1 HI.out
          refine c_val hX (v := ?_) 0 ({ dst := some 25, op := Go.Op.move (Go.Operand.tmp 6), type := 3, pos := "ref.go:116", after := #[], guard := none }) hI (by kernel_rfl) (by kernel_rfl) rfl ?_ ?_
          rotate_left
          · intro bA hb W hI KR hKR
            have e6 := hb 6
            simp only [List.getElem?_toArray, List.getElem?_cons_succ, List.getElem?_cons_zero] at e6
            clear hb
            go_simp
            exact hKR _ (Gr.refl _)
          (try simp only [Act.put, List.setIfInBounds_toArray, List.set_cons_zero, List.set_cons_succ])
          refine c_val hX (v := ?_) 1 ({ dst := some 26, op := Go.Op.move (Go.Operand.tmp 6), type := 3, pos := "ref.go:116", after := #[], guard := none }) hI (by kernel_rfl) (by kernel_rfl) rfl ?_ ?_
          rotate_left
          · intro bA hb W hI KR hKR
            have e6 := hb 6
            simp only [List.getElem?_toArray, List.getElem?_cons_succ, List.getElem?_cons_zero] at e6
            clear hb
            go_simp
            exact hKR _ (Gr.refl _)
          (try simp only [Act.put, List.setIfInBounds_toArray, List.set_cons_zero, List.set_cons_succ])
          refine c_val hX (v := ?_) 2 ({ dst := some 27, op := Go.Op.move (Go.Operand.tmp 0), type := 55, pos := "ref.go:116", after := #[], guard := none }) hI (by kernel_rfl) (by kernel_rfl) rfl ?_ ?_
          rotate_left
          · intro bA hb W hI KR hKR
            have e0 := hb 0
            simp only [List.getElem?_toArray, List.getElem?_cons_succ, List.getElem?_cons_zero] at e0
            clear hb
            go_simp
            exact hKR _ (Gr.refl _)
          (try simp only [Act.put, List.setIfInBounds_toArray, List.set_cons_zero, List.set_cons_succ])
          refine c_val hX (v := ?_) 3 ({ dst := some 28, op := Go.Op.call { callee := Go.Callee.builtin Go.Builtin.len, args := #[Go.Operand.tmp 27], argTypes := #[55] }, type := 3, pos := "ref.go:116", after := #[{ on := 2, ground := Go.Ground.data }], guard := none }) hI (by kernel_rfl) (by kernel_rfl) rfl ?_ ?_
          rotate_left
          · intro bA hb W hI KR hKR
            have e27 := hb 27
            simp only [List.getElem?_toArray, List.getElem?_cons_succ, List.getElem?_cons_zero] at e27
            clear hb
            go_simp
            exact hKR _ (Gr.refl _)
          (try simp only [Act.put, List.setIfInBounds_toArray, List.set_cons_zero, List.set_cons_succ])
          refine c_val hX (v := ?_) 4 ({ dst := some 29, op := Go.Op.binOp Go.BinOp.lss 3 (Go.Operand.tmp 26) (Go.Operand.tmp 28) 3, type := 4, pos := "ref.go:116", after := #[{ on := 1, ground := Go.Ground.data }, { on := 3, ground := Go.Ground.data }], guard := none }) hI (by kernel_rfl) (by kernel_rfl) rfl ?_ ?_
          rotate_left
          · intro bA hb W hI KR hKR
            have e26 := hb 26
            have e28 := hb 28
            simp only [List.getElem?_toArray, List.getElem?_cons_succ, List.getElem?_cons_zero] at e26 e28
            clear hb
            go_simp
            exact hKR _ (Gr.refl _)
          (try simp only [Act.put, List.setIfInBounds_toArray, List.set_cons_zero, List.set_cons_succ])
          refine c_val hX (v := ?_) 5 ({ dst := some 30, op := Go.Op.move (Go.Operand.tmp 29), type := 4, pos := "ref.go:116", after := #[{ on := 4, ground := Go.Ground.data }], guard := none }) hI (by kernel_rfl) (by kernel_rfl) rfl ?_ ?_
          rotate_left
          · intro bA hb W hI KR hKR
            have e29 := hb 29
            simp only [List.getElem?_toArray, List.getElem?_cons_succ, List.getElem?_cons_zero] at e29
            clear hb
            go_simp
            exact hKR _ (Gr.refl _)
          (try simp only [Act.put, List.setIfInBounds_toArray, List.set_cons_zero, List.set_cons_succ])
          refine c_val hX (v := ?_) 6 ({ dst := some 31, op := Go.Op.move (Go.Operand.tmp 0), type := 55, pos := "ref.go:116", after := #[{ on := 5, ground := Go.Ground.guard }, { on := 13, ground := Go.Ground.gcOnly Go.Departure.lateStores }], guard := some (5, true) }) hI (by kernel_rfl) (by kernel_rfl) (wanted_of (j := 5) (d := 30) rfl (by kernel_rfl) rfl) ?_ ?_
          rotate_left
          · intro bA hb W hI KR hKR
            have e0 := hb 0
            simp only [List.getElem?_toArray, List.getElem?_cons_succ, List.getElem?_cons_zero] at e0
            clear hb
            go_simp
            exact hKR _ (Gr.refl _)
          (try simp only [Act.put, List.setIfInBounds_toArray, List.set_cons_zero, List.set_cons_succ])
          refine c_val hX (v := ?_) 7 ({ dst := some 32, op := Go.Op.move (Go.Operand.tmp 6), type := 3, pos := "ref.go:116", after := #[{ on := 5, ground := Go.Ground.guard }, { on := 13, ground := Go.Ground.gcOnly Go.Departure.lateStores }], guard := some (5, true) }) hI (by kernel_rfl) (by kernel_rfl) (wanted_of (j := 5) (d := 30) rfl (by kernel_rfl) rfl) ?_ ?_
          rotate_left
          · intro bA hb W hI KR hKR
            have e6 := hb 6
            simp only [List.getElem?_toArray, List.getElem?_cons_succ, List.getElem?_cons_zero] at e6
            clear hb
            go_simp
            exact hKR _ (Gr.refl _)
          (try simp only [Act.put, List.setIfInBounds_toArray, List.set_cons_zero, List.set_cons_succ])
          refine c_val hX (v := ?_) 8 ({ dst := some 33, op := Go.Op.indexAddr 55 (Go.Operand.tmp 31) (Go.Operand.tmp 32), type := 0, pos := "ref.go:116", after := #[{ on := 6, ground := Go.Ground.data }, { on := 7, ground := Go.Ground.data }, { on := 5, ground := Go.Ground.guard }, { on := 13, ground := Go.Ground.gcOnly Go.Departure.lateStores }], guard := some (5, true) }) hI (by kernel_rfl) (by kernel_rfl) (wanted_of (j := 5) (d := 30) rfl (by kernel_rfl) rfl) ?_ ?_
          rotate_left
          · intro bA hb W hI KR hKR
            have e31 := hb 31
            have e32 := hb 32
            simp only [List.getElem?_toArray, List.getElem?_cons_succ, List.getElem?_cons_zero] at e31 e32
            clear hb
            go_simp
            exact hKR _ (Gr.refl _)
          (try simp only [Act.put, List.setIfInBounds_toArray, List.set_cons_zero, List.set_cons_succ])
          refine c_val hX (v := ?_) 9 ({ dst := some 34, op := Go.Op.load 34 (Go.Operand.tmp 33), type := 34, pos := "ref.go:116", after := #[{ on := 8, ground := Go.Ground.data }, { on := 5, ground := Go.Ground.guard }, { on := 13, ground := Go.Ground.gcOnly Go.Departure.lateStores }], guard := some (5, true) }) hI (by kernel_rfl) (by kernel_rfl) (wanted_of (j := 5) (d := 30) rfl (by kernel_rfl) rfl) ?_ ?_
          rotate_left
          · intro bA hb W hI KR hKR
            have e33 := hb 33
            simp only [List.getElem?_toArray, List.getElem?_cons_succ, List.getElem?_cons_zero] at e33
            clear hb
            refine wp_load_mid 34 (.tmp 33) rfl g (o + i * 2) (by simp [Act.eval, e33]) (SS a).toList _ (range_below hI HX.out) Try.underlying34 rfl (info34 _) ?_
            exact hKR _ (hX.refl _)
          (try simp only [Act.put, List.setIfInBounds_toArray, List.set_cons_zero, List.set_cons_succ])
          refine c_val hX (v := ?_) 10 ({ dst := some 35, op := Go.Op.load 34 (Go.Operand.tmp 3), type := 34, pos := "ref.go:116", after := #[{ on := 5, ground := Go.Ground.guard }, { on := 13, ground := Go.Ground.gcOnly Go.Departure.lateStores }], guard := some (5, true) }) hI (by kernel_rfl) (by kernel_rfl) (wanted_of (j := 5) (d := 30) rfl (by kernel_rfl) rfl) ?_ ?_
          rotate_left
          · intro bA hb W hI KR hKR
            have e3 := hb 3
            simp only [List.getElem?_toArray, List.getElem?_cons_succ, List.getElem?_cons_zero] at e3
            clear hb
            refine wp_load_mid 34 (.tmp 3) rfl w.heap.size (0) (by simp [Act.eval, e3]) (SS s).toList _ (range_below hI HC.out) Try.underlying34 rfl (info34 _) ?_
            exact hKR _ (hX.refl _)
          (try simp only [Act.put, List.setIfInBounds_toArray, List.set_cons_zero, List.set_cons_succ])
          refine c_val hX (v := ?_) 11 ({ dst := some 36, op := Go.Op.binOp Go.BinOp.eql 34 (Go.Operand.tmp 34) (Go.Operand.tmp 35) 34, type := 4, pos := "ref.go:116", after := #[{ on := 9, ground := Go.Ground.data }, { on := 10, ground := Go.Ground.data }, { on := 5, ground := Go.Ground.guard }, { on := 13, ground := Go.Ground.gcOnly Go.Departure.lateStores }], guard := some (5, true) }) hI (by kernel_rfl) (by kernel_rfl) (wanted_of (j := 5) (d := 30) rfl (by kernel_rfl) rfl) ?_ ?_
          rotate_left
          · intro bA hb W hI KR hKR
            have e34 := hb 34
            have e35 := hb 35
            simp only [List.getElem?_toArray, List.getElem?_cons_succ, List.getElem?_cons_zero] at e34 e35
            clear hb
            refine wp_of_run (exec_eql34 (p := a) (q := s) rfl (by simp [Act.eval, e34]) (by simp [Act.eval, e35])) ?_
            exact hKR _ (hX.refl _)
          (try simp only [Act.put, List.setIfInBounds_toArray, List.set_cons_zero, List.set_cons_succ])
          refine c_val hX (v := ?_) 12 ({ dst := some 37, op := Go.Op.pick (Go.Operand.tmp 30) (Go.Operand.tmp 36) (Go.Operand.const (Go.Value.bool false)), type := 4, pos := "ref.go:116", after := #[{ on := 5, ground := Go.Ground.data }, { on := 11, ground := Go.Ground.data }, { on := 13, ground := Go.Ground.gcOnly Go.Departure.lateStores }], guard := none }) hI (by kernel_rfl) (by kernel_rfl) rfl ?_ ?_
          rotate_left
          · intro bA hb W hI KR hKR
            have e30 := hb 30
            have e36 := hb 36
            simp only [List.getElem?_toArray, List.getElem?_cons_succ, List.getElem?_cons_zero] at e30 e36
            clear hb
            go_simp
            exact hKR _ (Gr.refl _)
          (try simp only [Act.put, List.setIfInBounds_toArray, List.set_cons_zero, List.set_cons_succ])
          refine c_val hX (v := ?_) 13 ({ dst := some 4, op := Go.Op.assign (Go.Operand.tmp 25), type := 3, pos := "ref.go:116", after := #[{ on := 0, ground := Go.Ground.data }, { on := 5, ground := Go.Ground.chain }, { on := 0, ground := Go.Ground.phase }, { on := 1, ground := Go.Ground.textOnly Go.Departure.lateStores }, { on := 2, ground := Go.Ground.textOnly Go.Departure.lateStores }, { on := 3, ground := Go.Ground.textOnly Go.Departure.lateStoresUnsure }, { on := 4, ground := Go.Ground.textOnly Go.Departure.lateStores }, { on := 5, ground := Go.Ground.textOnly Go.Departure.lateStores }, { on := 6, ground := Go.Ground.textOnly Go.Departure.lateStores }, { on := 7, ground := Go.Ground.textOnly Go.Departure.lateStores }, { on := 8, ground := Go.Ground.textOnly Go.Departure.lateStores }, { on := 9, ground := Go.Ground.textOnly Go.Departure.lateStores }, { on := 10, ground := Go.Ground.textOnly Go.Departure.lateStores }, { on := 11, ground := Go.Ground.textOnly Go.Departure.lateStores }, { on := 12, ground := Go.Ground.textOnly Go.Departure.lateStores }], guard := none }) hI (by kernel_rfl) (by kernel_rfl) rfl ?_ ?_
          rotate_left
          · intro bA hb W hI KR hKR
            have e25 := hb 25
            simp only [List.getElem?_toArray, List.getElem?_cons_succ, List.getElem?_cons_zero] at e25
            clear hb
            go_simp
            exact hKR _ (Gr.refl _)
          (try simp only [Act.put, List.setIfInBounds_toArray, List.set_cons_zero, List.set_cons_succ])
          refine c_val hX (v := ?_) 14 ({ dst := some 5, op := Go.Op.assign (Go.Operand.tmp 37), type := 4, pos := "ref.go:116", after := #[{ on := 12, ground := Go.Ground.data }, { on := 13, ground := Go.Ground.chain }, { on := 0, ground := Go.Ground.phase }, { on := 1, ground := Go.Ground.phase }, { on := 2, ground := Go.Ground.phase }, { on := 3, ground := Go.Ground.phase }, { on := 4, ground := Go.Ground.phase }, { on := 5, ground := Go.Ground.phase }, { on := 6, ground := Go.Ground.phase }, { on := 7, ground := Go.Ground.phase }, { on := 8, ground := Go.Ground.phase }, { on := 9, ground := Go.Ground.phase }, { on := 10, ground := Go.Ground.phase }, { on := 11, ground := Go.Ground.phase }, { on := 12, ground := Go.Ground.phase }, { on := 13, ground := Go.Ground.phase }], guard := none }) hI (by kernel_rfl) (by kernel_rfl) rfl ?_ ?_
          rotate_left
          · intro bA hb W hI KR hKR
            have e37 := hb 37
            simp only [List.getElem?_toArray, List.getElem?_cons_succ, List.getElem?_cons_zero] at e37
            clear hb
            go_simp
            exact hKR _ (Gr.refl _)
          (try simp only [Act.put, List.setIfInBounds_toArray, List.set_cons_zero, List.set_cons_succ])
          refine c_done (by kernel_rfl) ?_
          intro w3 hW
          refine hQ' _ _ ?_
          have hI := hX.keep hI hW
          clear hQ' hX hW
          go_wp2
          go_ret2
          refine ⟨?_, bel HB0.out hI⟩
          rw [HP.out, HF.out]
          rfl
      · obtain rfl : i = N := by omega
        have hp : plc l s = i := plc_is l s i (by rw [← HN.out]; omega) HT.out (fun x hx => absurd (List.getElem?_eq_some_iff.1 hx).1 (by rw [← HN.out]; omega))
        have hfn : fnd l s = false := by
          unfold fnd
          rw [hp, List.getElem?_eq_none (by rw [← HN.out]; omega)]
          simp
        have HP := Lib.hid hp
        have HF := Lib.hid hfn
        clear hp hfn
        go_wp2
        refine run_region (fn := Try.f23) (id := 4) (n := 13) [] (Bw w1) Gr (by kernel_rfl) (by kernel_rfl) (by kernel_rfl) (by kernel_rfl) Gr.refl (fun _ _ _ => Gr.trans) (fun _ _ h k => bel h k) ?_
        intro Q' hQ' hX
        have hI : (Bw w1) _ := below_drew1 HB.out
        refine c_val hX (v := ?_) 0 ({ dst := some 10, op := Go.Op.move (Go.Operand.tmp 6), type := 3, pos := "ref.go:113", after := #[], guard := none }) hI (by kernel_rfl) (by kernel_rfl) rfl ?_ ?_
        rotate_left
        · intro bA hb W hI KR hKR
          have e6 := hb 6
          simp only [List.getElem?_toArray, List.getElem?_cons_succ, List.getElem?_cons_zero] at e6
          clear hb
          go_simp
          exact hKR _ (Gr.refl _)
        (try simp only [Act.put, List.setIfInBounds_toArray, List.set_cons_zero, List.set_cons_succ])
        refine c_val hX (v := ?_) 1 ({ dst := some 11, op := Go.Op.move (Go.Operand.tmp 0), type := 55, pos := "ref.go:113", after := #[], guard := none }) hI (by kernel_rfl) (by kernel_rfl) rfl ?_ ?_
        rotate_left
        · intro bA hb W hI KR hKR
          have e0 := hb 0
          simp only [List.getElem?_toArray, List.getElem?_cons_succ, List.getElem?_cons_zero] at e0
          clear hb
          go_simp
          exact hKR _ (Gr.refl _)
        (try simp only [Act.put, List.setIfInBounds_toArray, List.set_cons_zero, List.set_cons_succ])
        refine c_val hX (v := ?_) 2 ({ dst := some 12, op := Go.Op.call { callee := Go.Callee.builtin Go.Builtin.len, args := #[Go.Operand.tmp 11], argTypes := #[55] }, type := 3, pos := "ref.go:113", after := #[{ on := 1, ground := Go.Ground.data }], guard := none }) hI (by kernel_rfl) (by kernel_rfl) rfl ?_ ?_
        rotate_left
        · intro bA hb W hI KR hKR
          have e11 := hb 11
          simp only [List.getElem?_toArray, List.getElem?_cons_succ, List.getElem?_cons_zero] at e11
          clear hb
          go_simp
          exact hKR _ (Gr.refl _)
        (try simp only [Act.put, List.setIfInBounds_toArray, List.set_cons_zero, List.set_cons_succ])
        refine c_val hX (v := ?_) 3 ({ dst := some 13, op := Go.Op.binOp Go.BinOp.lss 3 (Go.Operand.tmp 10) (Go.Operand.tmp 12) 3, type := 4, pos := "ref.go:113", after := #[{ on := 0, ground := Go.Ground.data }, { on := 2, ground := Go.Ground.data }], guard := none }) hI (by kernel_rfl) (by kernel_rfl) rfl ?_ ?_
        rotate_left
        · intro bA hb W hI KR hKR
          have e10 := hb 10
          have e12 := hb 12
          simp only [List.getElem?_toArray, List.getElem?_cons_succ, List.getElem?_cons_zero] at e10 e12
          clear hb
          go_simp
          exact hKR _ (Gr.refl _)
        (try simp only [Act.put, List.setIfInBounds_toArray, List.set_cons_zero, List.set_cons_succ])
        refine c_val hX (v := ?_) 4 ({ dst := some 14, op := Go.Op.move (Go.Operand.tmp 13), type := 4, pos := "ref.go:113", after := #[{ on := 3, ground := Go.Ground.data }], guard := none }) hI (by kernel_rfl) (by kernel_rfl) rfl ?_ ?_
        rotate_left
        · intro bA hb W hI KR hKR
          have e13 := hb 13
          simp only [List.getElem?_toArray, List.getElem?_cons_succ, List.getElem?_cons_zero] at e13
          clear hb
          go_simp
          exact hKR _ (Gr.refl _)
        (try simp only [Act.put, List.setIfInBounds_toArray, List.set_cons_zero, List.set_cons_succ])
        refine c_off hX 5 ({ dst := some 15, op := Go.Op.move (Go.Operand.tmp 0), type := 55, pos := "ref.go:113", after := #[{ on := 4, ground := Go.Ground.guard }], guard := some (4, true) }) hI (by kernel_rfl) (by kernel_rfl) (Bool.eq_false_iff.2 (unwanted_of (j := 4) (d := 14) rfl (by kernel_rfl) rfl (by simp))) ?_
        (try simp only [Act.put, List.setIfInBounds_toArray, List.set_cons_zero, List.set_cons_succ])
        refine c_off hX 6 ({ dst := some 16, op := Go.Op.move (Go.Operand.tmp 6), type := 3, pos := "ref.go:113", after := #[{ on := 4, ground := Go.Ground.guard }], guard := some (4, true) }) hI (by kernel_rfl) (by kernel_rfl) (Bool.eq_false_iff.2 (unwanted_of (j := 4) (d := 14) rfl (by kernel_rfl) rfl (by simp))) ?_
        (try simp only [Act.put, List.setIfInBounds_toArray, List.set_cons_zero, List.set_cons_succ])
        refine c_off hX 7 ({ dst := some 17, op := Go.Op.indexAddr 55 (Go.Operand.tmp 15) (Go.Operand.tmp 16), type := 0, pos := "ref.go:113", after := #[{ on := 5, ground := Go.Ground.data }, { on := 6, ground := Go.Ground.data }, { on := 4, ground := Go.Ground.guard }], guard := some (4, true) }) hI (by kernel_rfl) (by kernel_rfl) (Bool.eq_false_iff.2 (unwanted_of (j := 4) (d := 14) rfl (by kernel_rfl) rfl (by simp))) ?_
        (try simp only [Act.put, List.setIfInBounds_toArray, List.set_cons_zero, List.set_cons_succ])
        refine c_off hX 8 ({ dst := some 18, op := Go.Op.load 34 (Go.Operand.tmp 17), type := 34, pos := "ref.go:113", after := #[{ on := 7, ground := Go.Ground.data }, { on := 4, ground := Go.Ground.guard }], guard := some (4, true) }) hI (by kernel_rfl) (by kernel_rfl) (Bool.eq_false_iff.2 (unwanted_of (j := 4) (d := 14) rfl (by kernel_rfl) rfl (by simp))) ?_
        (try simp only [Act.put, List.setIfInBounds_toArray, List.set_cons_zero, List.set_cons_succ])
        refine c_off hX 9 ({ dst := some 19, op := Go.Op.load 34 (Go.Operand.tmp 3), type := 34, pos := "ref.go:113", after := #[{ on := 4, ground := Go.Ground.guard }], guard := some (4, true) }) hI (by kernel_rfl) (by kernel_rfl) (Bool.eq_false_iff.2 (unwanted_of (j := 4) (d := 14) rfl (by kernel_rfl) rfl (by simp))) ?_
        (try simp only [Act.put, List.setIfInBounds_toArray, List.set_cons_zero, List.set_cons_succ])
        refine c_off hX 10 ({ dst := some 20, op := Go.Op.call { callee := Go.Callee.value (Go.Operand.func 39), args := #[Go.Operand.tmp 18, Go.Operand.tmp 19], argTypes := #[34, 34] }, type := 3, pos := "ref.go:113", after := #[{ on := 8, ground := Go.Ground.data }, { on := 9, ground := Go.Ground.data }, { on := 4, ground := Go.Ground.chain }, { on := 4, ground := Go.Ground.guard }], guard := some (4, true) }) hI (by kernel_rfl) (by kernel_rfl) (Bool.eq_false_iff.2 (unwanted_of (j := 4) (d := 14) rfl (by kernel_rfl) rfl (by simp))) ?_
        (try simp only [Act.put, List.setIfInBounds_toArray, List.set_cons_zero, List.set_cons_succ])
        refine c_off hX 11 ({ dst := some 21, op := Go.Op.binOp Go.BinOp.lss 3 (Go.Operand.tmp 20) (Go.Operand.const (Go.Value.int Go.IntKind.i64 0)) 3, type := 4, pos := "ref.go:113", after := #[{ on := 10, ground := Go.Ground.data }, { on := 4, ground := Go.Ground.guard }], guard := some (4, true) }) hI (by kernel_rfl) (by kernel_rfl) (Bool.eq_false_iff.2 (unwanted_of (j := 4) (d := 14) rfl (by kernel_rfl) rfl (by simp))) ?_
        (try simp only [Act.put, List.setIfInBounds_toArray, List.set_cons_zero, List.set_cons_succ])
        refine c_val hX (v := ?_) 12 ({ dst := some 22, op := Go.Op.pick (Go.Operand.tmp 14) (Go.Operand.tmp 21) (Go.Operand.const (Go.Value.bool false)), type := 4, pos := "ref.go:113", after := #[{ on := 4, ground := Go.Ground.data }, { on := 11, ground := Go.Ground.data }], guard := none }) hI (by kernel_rfl) (by kernel_rfl) rfl ?_ ?_
        rotate_left
        · intro bA hb W hI KR hKR
          have e14 := hb 14
          have e21 := hb 21
          simp only [List.getElem?_toArray, List.getElem?_cons_succ, List.getElem?_cons_zero] at e14 e21
          clear hb
          go_simp
          exact hKR _ (Gr.refl _)
        (try simp only [Act.put, List.setIfInBounds_toArray, List.set_cons_zero, List.set_cons_succ])
        refine c_done (by kernel_rfl) ?_
        intro w2 hW
        refine hQ' _ _ ?_
        have hI := hX.keep hI hW
        clear hQ' hX hW
        have HI := Lib.hid hI
        go_wp2
        refine run_region (fn := Try.f23) (id := 6) (n := 15) [] (Bw w1) Gr (by kernel_rfl) (by kernel_rfl) (by kernel_rfl) (by kernel_rfl) Gr.refl (fun _ _ _ => Gr.trans) (fun _ _ h k => bel h k) ?_
        intro Q' hQ' hX
        have hI : (Bw w1) _ := below_drew1 HI.out
        refine c_val hX (v := ?_) 0 ({ dst := some 25, op := Go.Op.move (Go.Operand.tmp 6), type := 3, pos := "ref.go:116", after := #[], guard := none }) hI (by kernel_rfl) (by kernel_rfl) rfl ?_ ?_
        rotate_left
        · intro bA hb W hI KR hKR
          have e6 := hb 6
          simp only [List.getElem?_toArray, List.getElem?_cons_succ, List.getElem?_cons_zero] at e6
          clear hb
          go_simp
          exact hKR _ (Gr.refl _)
        (try simp only [Act.put, List.setIfInBounds_toArray, List.set_cons_zero, List.set_cons_succ])
        refine c_val hX (v := ?_) 1 ({ dst := some 26, op := Go.Op.move (Go.Operand.tmp 6), type := 3, pos := "ref.go:116", after := #[], guard := none }) hI (by kernel_rfl) (by kernel_rfl) rfl ?_ ?_
        rotate_left
        · intro bA hb W hI KR hKR
          have e6 := hb 6
          simp only [List.getElem?_toArray, List.getElem?_cons_succ, List.getElem?_cons_zero] at e6
          clear hb
          go_simp
          exact hKR _ (Gr.refl _)
        (try simp only [Act.put, List.setIfInBounds_toArray, List.set_cons_zero, List.set_cons_succ])
        refine c_val hX (v := ?_) 2 ({ dst := some 27, op := Go.Op.move (Go.Operand.tmp 0), type := 55, pos := "ref.go:116", after := #[], guard := none }) hI (by kernel_rfl) (by kernel_rfl) rfl ?_ ?_
        rotate_left
        · intro bA hb W hI KR hKR
          have e0 := hb 0
          simp only [List.getElem?_toArray, List.getElem?_cons_succ, List.getElem?_cons_zero] at e0
          clear hb
          go_simp
          exact hKR _ (Gr.refl _)
        (try simp only [Act.put, List.setIfInBounds_toArray, List.set_cons_zero, List.set_cons_succ])
        refine c_val hX (v := ?_) 3 ({ dst := some 28, op := Go.Op.call { callee := Go.Callee.builtin Go.Builtin.len, args := #[Go.Operand.tmp 27], argTypes := #[55] }, type := 3, pos := "ref.go:116", after := #[{ on := 2, ground := Go.Ground.data }], guard := none }) hI (by kernel_rfl) (by kernel_rfl) rfl ?_ ?_
        rotate_left
        · intro bA hb W hI KR hKR
          have e27 := hb 27
          simp only [List.getElem?_toArray, List.getElem?_cons_succ, List.getElem?_cons_zero] at e27
          clear hb
          go_simp
          exact hKR _ (Gr.refl _)
        (try simp only [Act.put, List.setIfInBounds_toArray, List.set_cons_zero, List.set_cons_succ])
        refine c_val hX (v := ?_) 4 ({ dst := some 29, op := Go.Op.binOp Go.BinOp.lss 3 (Go.Operand.tmp 26) (Go.Operand.tmp 28) 3, type := 4, pos := "ref.go:116", after := #[{ on := 1, ground := Go.Ground.data }, { on := 3, ground := Go.Ground.data }], guard := none }) hI (by kernel_rfl) (by kernel_rfl) rfl ?_ ?_
        rotate_left
        · intro bA hb W hI KR hKR
          have e26 := hb 26
          have e28 := hb 28
          simp only [List.getElem?_toArray, List.getElem?_cons_succ, List.getElem?_cons_zero] at e26 e28
          clear hb
          go_simp
          exact hKR _ (Gr.refl _)
        (try simp only [Act.put, List.setIfInBounds_toArray, List.set_cons_zero, List.set_cons_succ])
        refine c_val hX (v := ?_) 5 ({ dst := some 30, op := Go.Op.move (Go.Operand.tmp 29), type := 4, pos := "ref.go:116", after := #[{ on := 4, ground := Go.Ground.data }], guard := none }) hI (by kernel_rfl) (by kernel_rfl) rfl ?_ ?_
        rotate_left
        · intro bA hb W hI KR hKR
          have e29 := hb 29
          simp only [List.getElem?_toArray, List.getElem?_cons_succ, List.getElem?_cons_zero] at e29
          clear hb
          go_simp
          exact hKR _ (Gr.refl _)
        (try simp only [Act.put, List.setIfInBounds_toArray, List.set_cons_zero, List.set_cons_succ])
        refine c_off hX 6 ({ dst := some 31, op := Go.Op.move (Go.Operand.tmp 0), type := 55, pos := "ref.go:116", after := #[{ on := 5, ground := Go.Ground.guard }, { on := 13, ground := Go.Ground.gcOnly Go.Departure.lateStores }], guard := some (5, true) }) hI (by kernel_rfl) (by kernel_rfl) (Bool.eq_false_iff.2 (unwanted_of (j := 5) (d := 30) rfl (by kernel_rfl) rfl (by simp))) ?_
        (try simp only [Act.put, List.setIfInBounds_toArray, List.set_cons_zero, List.set_cons_succ])
        refine c_off hX 7 ({ dst := some 32, op := Go.Op.move (Go.Operand.tmp 6), type := 3, pos := "ref.go:116", after := #[{ on := 5, ground := Go.Ground.guard }, { on := 13, ground := Go.Ground.gcOnly Go.Departure.lateStores }], guard := some (5, true) }) hI (by kernel_rfl) (by kernel_rfl) (Bool.eq_false_iff.2 (unwanted_of (j := 5) (d := 30) rfl (by kernel_rfl) rfl (by simp))) ?_
        (try simp only [Act.put, List.setIfInBounds_toArray, List.set_cons_zero, List.set_cons_succ])
        refine c_off hX 8 ({ dst := some 33, op := Go.Op.indexAddr 55 (Go.Operand.tmp 31) (Go.Operand.tmp 32), type := 0, pos := "ref.go:116", after := #[{ on := 6, ground := Go.Ground.data }, { on := 7, ground := Go.Ground.data }, { on := 5, ground := Go.Ground.guard }, { on := 13, ground := Go.Ground.gcOnly Go.Departure.lateStores }], guard := some (5, true) }) hI (by kernel_rfl) (by kernel_rfl) (Bool.eq_false_iff.2 (unwanted_of (j := 5) (d := 30) rfl (by kernel_rfl) rfl (by simp))) ?_
        (try simp only [Act.put, List.setIfInBounds_toArray, List.set_cons_zero, List.set_cons_succ])
        refine c_off hX 9 ({ dst := some 34, op := Go.Op.load 34 (Go.Operand.tmp 33), type := 34, pos := "ref.go:116", after := #[{ on := 8, ground := Go.Ground.data }, { on := 5, ground := Go.Ground.guard }, { on := 13, ground := Go.Ground.gcOnly Go.Departure.lateStores }], guard := some (5, true) }) hI (by kernel_rfl) (by kernel_rfl) (Bool.eq_false_iff.2 (unwanted_of (j := 5) (d := 30) rfl (by kernel_rfl) rfl (by simp))) ?_
        (try simp only [Act.put, List.setIfInBounds_toArray, List.set_cons_zero, List.set_cons_succ])
        refine c_off hX 10 ({ dst := some 35, op := Go.Op.load 34 (Go.Operand.tmp 3), type := 34, pos := "ref.go:116", after := #[{ on := 5, ground := Go.Ground.guard }, { on := 13, ground := Go.Ground.gcOnly Go.Departure.lateStores }], guard := some (5, true) }) hI (by kernel_rfl) (by kernel_rfl) (Bool.eq_false_iff.2 (unwanted_of (j := 5) (d := 30) rfl (by kernel_rfl) rfl (by simp))) ?_
        (try simp only [Act.put, List.setIfInBounds_toArray, List.set_cons_zero, List.set_cons_succ])
        refine c_off hX 11 ({ dst := some 36, op := Go.Op.binOp Go.BinOp.eql 34 (Go.Operand.tmp 34) (Go.Operand.tmp 35) 34, type := 4, pos := "ref.go:116", after := #[{ on := 9, ground := Go.Ground.data }, { on := 10, ground := Go.Ground.data }, { on := 5, ground := Go.Ground.guard }, { on := 13, ground := Go.Ground.gcOnly Go.Departure.lateStores }], guard := some (5, true) }) hI (by kernel_rfl) (by kernel_rfl) (Bool.eq_false_iff.2 (unwanted_of (j := 5) (d := 30) rfl (by kernel_rfl) rfl (by simp))) ?_
        (try simp only [Act.put, List.setIfInBounds_toArray, List.set_cons_zero, List.set_cons_succ])
        refine c_val hX (v := ?_) 12 ({ dst := some 37, op := Go.Op.pick (Go.Operand.tmp 30) (Go.Operand.tmp 36) (Go.Operand.const (Go.Value.bool false)), type := 4, pos := "ref.go:116", after := #[{ on := 5, ground := Go.Ground.data }, { on := 11, ground := Go.Ground.data }, { on := 13, ground := Go.Ground.gcOnly Go.Departure.lateStores }], guard := none }) hI (by kernel_rfl) (by kernel_rfl) rfl ?_ ?_
        rotate_left
        · intro bA hb W hI KR hKR
          have e30 := hb 30
          have e36 := hb 36
          simp only [List.getElem?_toArray, List.getElem?_cons_succ, List.getElem?_cons_zero] at e30 e36
          clear hb
          go_simp
          exact hKR _ (Gr.refl _)
        (try simp only [Act.put, List.setIfInBounds_toArray, List.set_cons_zero, List.set_cons_succ])
        refine c_val hX (v := ?_) 13 ({ dst := some 4, op := Go.Op.assign (Go.Operand.tmp 25), type := 3, pos := "ref.go:116", after := #[{ on := 0, ground := Go.Ground.data }, { on := 5, ground := Go.Ground.chain }, { on := 0, ground := Go.Ground.phase }, { on := 1, ground := Go.Ground.textOnly Go.Departure.lateStores }, { on := 2, ground := Go.Ground.textOnly Go.Departure.lateStores }, { on := 3, ground := Go.Ground.textOnly Go.Departure.lateStoresUnsure }, { on := 4, ground := Go.Ground.textOnly Go.Departure.lateStores }, { on := 5, ground := Go.Ground.textOnly Go.Departure.lateStores }, { on := 6, ground := Go.Ground.textOnly Go.Departure.lateStores }, { on := 7, ground := Go.Ground.textOnly Go.Departure.lateStores }, { on := 8, ground := Go.Ground.textOnly Go.Departure.lateStores }, { on := 9, ground := Go.Ground.textOnly Go.Departure.lateStores }, { on := 10, ground := Go.Ground.textOnly Go.Departure.lateStores }, { on := 11, ground := Go.Ground.textOnly Go.Departure.lateStores }, { on := 12, ground := Go.Ground.textOnly Go.Departure.lateStores }], guard := none }) hI (by kernel_rfl) (by kernel_rfl) rfl ?_ ?_
        rotate_left
        · intro bA hb W hI KR hKR
          have e25 := hb 25
          simp only [List.getElem?_toArray, List.getElem?_cons_succ, List.getElem?_cons_zero] at e25
          clear hb
          go_simp
          exact hKR _ (Gr.refl _)
        (try simp only [Act.put, List.setIfInBounds_toArray, List.set_cons_zero, List.set_cons_succ])
        refine c_val hX (v := ?_) 14 ({ dst := some 5, op := Go.Op.assign (Go.Operand.tmp 37), type := 4, pos := "ref.go:116", after := #[{ on := 12, ground := Go.Ground.data }, { on := 13, ground := Go.Ground.chain }, { on := 0, ground := Go.Ground.phase }, { on := 1, ground := Go.Ground.phase }, { on := 2, ground := Go.Ground.phase }, { on := 3, ground := Go.Ground.phase }, { on := 4, ground := Go.Ground.phase }, { on := 5, ground := Go.Ground.phase }, { on := 6, ground := Go.Ground.phase }, { on := 7, ground := Go.Ground.phase }, { on := 8, ground := Go.Ground.phase }, { on := 9, ground := Go.Ground.phase }, { on := 10, ground := Go.Ground.phase }, { on := 11, ground := Go.Ground.phase }, { on := 12, ground := Go.Ground.phase }, { on := 13, ground := Go.Ground.phase }], guard := none }) hI (by kernel_rfl) (by kernel_rfl) rfl ?_ ?_
        rotate_left
        · intro bA hb W hI KR hKR
          have e37 := hb 37
          simp only [List.getElem?_toArray, List.getElem?_cons_succ, List.getElem?_cons_zero] at e37
          clear hb
          go_simp
          exact hKR _ (Gr.refl _)
        (try simp only [Act.put, List.setIfInBounds_toArray, List.set_cons_zero, List.set_cons_succ])
        refine c_done (by kernel_rfl) ?_
        intro w3 hW
        refine hQ' _ _ ?_
        have hI := hX.keep hI hW
        clear hQ' hX hW
        go_wp2
        go_ret2
        refine ⟨?_, bel HB0.out hI⟩
        rw [HP.out, HF.out]
        rfl
  · have hq := riseB_false q
    have HQB := Lib.hid hq
    clear q hq
    go_wp2_with (go_at_call 25; refine (rrising_any _ l _ (H.out.below (below_alloc (Below.refl _ _) _)) HL.out).mono ?_; rintro e w1 ⟨rfl, hb⟩; have HB0 := Lib.hid (bel (below_alloc (Below.refl w.heap.size w) (.cells (SS s) 34)) hb); rw [HQB.out]; clear hb)
    all_goals
      go_ret2
      first
        | exact ⟨rfl, HB0.out⟩
        | (exfalso; have h0 := HQB.out; simp_all; done)
end Go.Proofs.Ytndfoohdoadkfaa
