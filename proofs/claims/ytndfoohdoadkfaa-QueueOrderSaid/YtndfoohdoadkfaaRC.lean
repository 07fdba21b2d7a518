/- The law's own helpers: Items, Rows; what Merge's two answers have in common. -/
import Derived.Test.YtndfoohdoadkfaaRB
set_option linter.unusedVariables false
set_option linter.unusedSimpArgs false
namespace Go.Proofs.Ytndfoohdoadkfaa
open Go.RowKit
/-- A row of items that is read. -/
def RowI (W : World) (v : Value) (xs : List It) : Prop := ∃ A c, v = .slice A xs.length c ∧ xs.length ≤ c ∧ (0 < xs.length → ∃ g o, A = some ⟨g, o, none⟩ ∧ ∀ k s, xs[k]? = some s → W.rangeAt g (o + k * 3) (IS s).toList)
theorem RowI.below {W W1 : World} {v : Value} {xs : List It} (h : RowI W v xs) (hb : Below W.heap.size W W1) : RowI W1 v xs := by
  obtain ⟨A, c, rfl, hc, h⟩ := h
  exact ⟨A, c, rfl, hc, fun h0 => by obtain ⟨g, o, e, hr⟩ := h h0; exact ⟨g, o, e, fun k s hk => range_below hb (hr k s hk)⟩⟩
theorem RowI.own {W : World} {base : Nat} {v : Value} {xs : List It} (h : W.ownsRow base 40 3 v xs.length (cellsI xs)) : RowI W v xs := by
  obtain ⟨A, c, rfl⟩ := own_slice h
  refine ⟨A, c, rfl, own_le h, fun h0 => ?_⟩
  obtain ⟨g, rfl, _⟩ := own_some h h0
  exact ⟨g, 0, rfl, fun k s hk => by rw [Nat.zero_add]; exact row_range h hk⟩
theorem rowI_cells {W : World} {g o : Nat} {ss : List It} (h : ∀ k s, ss[k]? = some s → W.rangeAt g (o + k * 3) (IS s).toList) : ∀ j u, (cellsI ss)[j]? = some u → W.cell? ((⟨g, o, none⟩ : Addr).add j) = some u := by
  intro j u hj
  have hjl := (List.getElem?_eq_some_iff.1 hj).1
  rw [cellsI_len] at hjl
  have hk : ss[j / 3]? = some (ss[j / 3]'(by omega)) := List.getElem?_eq_getElem (by omega)
  have h1 := h _ _ hk (j % 3) u (by rw [← cellsI_get ss (j / 3) (j % 3) _ hk (by omega), show j / 3 * 3 + j % 3 = j by omega]; exact hj)
  rw [show o + j / 3 * 3 + j % 3 = o + j by omega] at h1
  rw [Addr.add_mid]
  exact h1
theorem cellsI_append (a b : List It) : cellsI (a ++ b) = cellsI a ++ cellsI b := by simp [cellsI]
/-- append of a row of items that is read. -/
theorem app_rowsI {T : TypeId} (ht : Try.prog.underlying T = some (.slice 40)) {W : World} {base : Nat} {v u : Value} {xs ys : List It} (h : W.ownsRow base 40 3 v xs.length (cellsI xs)) (r : RowI W u ys) (nz : Nz u) (hb : base ≤ W.heap.size) (hl : xs.length ≤ 1000000) (hl2 : ys.length ≤ 1000000) :
    ∃ v' w', (Builtin.append_ #[T, T] T #[v, u]).run Try.prog W = .ok v' w' ∧ w'.ownsRow base 40 3 v' (xs ++ ys).length (cellsI (xs ++ ys)) ∧ W.grownBy w' v.ownBlock ∧ (v'.ownBlock = v.ownBlock ∨ v'.ownBlock = some W.heap.size) := by
  obtain ⟨i0, hi, hzz⟩ := Option.map_eq_some_iff.1 info40b
  simp only [Prod.mk.injEq] at hzz
  obtain ⟨hz0, hz1, hz2⟩ := hzz
  obtain ⟨A, c, rfl, hc, hr⟩ := r
  rcases nz with e | ⟨ad, n, c', e⟩
  · injection e with e1 e2 e3
    have : ys = [] := List.eq_nil_of_length_eq_zero e2
    subst this e1 e3
    exact ⟨v, W, run_append_owned_none W base T T 40 i0 3 ht hi v xs.length (cellsI xs) h, by simpa using h, World.grownBy.refl _ _, .inl rfl⟩
  · injection e with e1 e2 e3
    subst e1
    have hcells : ∀ j u, (cellsI ys)[j]? = some u → W.cell? (ad.add j) = some u := by
      intro j u hj
      have hjl := (List.getElem?_eq_some_iff.1 hj).1
      rw [cellsI_len] at hjl
      obtain ⟨g, o, e, hk⟩ := hr (by omega)
      injection e with e
      subst e
      exact rowI_cells hk j u hj
    obtain ⟨v', w', h1, h2, h3, h4, h5⟩ := run_append_own_at (P := Try.prog) W base T T 40 i0 _ 3 24 ht hi hz0 hz1 hz2 rfl (by omega) v xs.length (cellsI xs) h ad ys.length c (cellsI ys) (cellsI_len ys) hcells (cells_one ys) (by simp only [maxLen]; omega) (by omega) hb
    exact ⟨v', w', h1, by rw [cellsI_append, List.length_append]; exact h2, h3, h5⟩
theorem rowI_one {W : World} {g : Nat} {x : It} {T : TypeId} (hg : W.heap[g]? = some (.cells (IS x) T (0, 0))) : RowI W (.slice (some ⟨g, 0, none⟩) 1 1) [x] :=
  ⟨_, _, rfl, Nat.le_refl _, fun _ => ⟨g, 0, rfl, fun q t hq => by
    rcases q with _ | q
    · injection hq with hq
      subst hq
      exact range_of_heap hg _ _ (fun j v hv => by simpa using hv)
    · simp at hq⟩⟩
theorem bs27 (x : It) (W : World) : (Instr.buildSlice 27 1 #[(0, .agg (IS x))]).run Try.prog W = .ok (.slice (some ⟨W.heap.size, 0, none⟩) 1 1) (W.alloc (.cells (IS x) 40)) := by
  kernel_rfl
theorem bd40i (x : It) (W : World) : (Instr.build 40 #[(0, .agg (SS (stOf x))), (1, .int .i64 x.g)]).run Try.prog W = .ok (.agg (IS x)) W := by
  kernel_rfl
theorem range_st {W : World} {g o : Nat} {x : It} (h : W.rangeAt g o (IS x).toList) : W.rangeAt g o (SS (stOf x)).toList := by
  intro j v hv
  refine h j v ?_
  rcases j with _ | _ | j
  · exact hv
  · exact hv
  · simp [SS] at hv
set_option maxRecDepth 10000 in
set_option maxHeartbeats 4000000 in
theorem items_any (v : Value) (xs : List It) (w : World) (h : RowI w v xs) (hl : xs.length ≤ 900000) :
    Calls Try.prog 10 #[v] w fun e w' => ∃ v', e = .returned v' ∧ w'.ownsRow w.heap.size 40 3 v' xs.length (cellsI xs) ∧ Below w.heap.size w w' := by
  obtain ⟨A, c, rfl, k1, r1⟩ := h
  obtain ⟨N, hN⟩ : ∃ N, N = xs.length := ⟨_, rfl⟩
  have HN := Lib.hid hN
  have R1 := Lib.hid r1
  rw [← hN] at k1 hl ⊢
  clear hN r1
  go_enter Try.func10, Try.ntmps10
  go_wp2
  go_loopw [3, 4] (fun p n wr => ∃ (i : Nat), n = .int .i64 i ∧ i ≤ N ∧ Hid (wr.ownsRow w.heap.size 40 3 p (xs.take i).length (cellsI (xs.take i))) ∧ Hid (Below w.heap.size w wr)) (fun _ n _ => N - (intOf n).toNat)
  case atStart => exact ⟨0, rfl, by omega, Lib.hid (own_none _ _), Lib.hid (Below.refl _ _)⟩
  case round =>
    obtain ⟨i, rfl, hi, HO, HB⟩ := hrel
    by_cases q : i < N
    · obtain ⟨g, o, rfl, r1⟩ := R1.out (by rw [← HN.out]; omega)
      obtain ⟨x, hx⟩ : ∃ x, xs[i]? = some x := ⟨_, List.getElem?_eq_getElem (by rw [← HN.out]; omega)⟩
      have HX := Lib.hid (r1 i x hx)
      have HXI := Lib.hid hx
      have hlen : (xs.take i).length ≤ 1000000 := by simp; have := HN.out; omega
      have HL := Lib.hid hlen
      clear r1 hx hlen
      go_wp2
      refine run_region (fn := Try.f10) (id := 5) (n := 15) [] (Bw w) Gr (by kernel_rfl) (by kernel_rfl) (by kernel_rfl) (by kernel_rfl) Gr.refl (fun _ _ _ => Gr.trans) (fun _ _ h k => bel h k) ?_
      intro Q' hQ' hX
      have hI : (Bw w) _ := below_drew1 HB.out
      replace HO := Lib.hid (own_drew HO.out)
      refine c_val hX (v := ?_) 0 ({ dst := some 11, op := Go.Op.move (Go.Operand.tmp 3), type := 27, pos := "law.go:16", after := #[], guard := none }) hI (by kernel_rfl) (by kernel_rfl) rfl ?_ ?_
      rotate_left
      · intro bA hb W hI KR hKR
        have e3 := hb 3
        simp only [List.getElem?_toArray, List.getElem?_cons_succ, List.getElem?_cons_zero] at e3
        clear hb
        go_simp
        exact hKR _ (Gr.refl _)
      (try simp only [Act.put, List.setIfInBounds_toArray, List.set_cons_zero, List.set_cons_succ])
      refine c_val hX (v := ?_) 1 ({ dst := some 12, op := Go.Op.move (Go.Operand.tmp 0), type := 22, pos := "law.go:16", after := #[], guard := none }) hI (by kernel_rfl) (by kernel_rfl) rfl ?_ ?_
      rotate_left
      · intro bA hb W hI KR hKR
        have e0 := hb 0
        simp only [List.getElem?_toArray, List.getElem?_cons_succ, List.getElem?_cons_zero] at e0
        clear hb
        go_simp
        exact hKR _ (Gr.refl _)
      (try simp only [Act.put, List.setIfInBounds_toArray, List.set_cons_zero, List.set_cons_succ])
      refine c_val hX (v := ?_) 2 ({ dst := some 13, op := Go.Op.move (Go.Operand.tmp 4), type := 3, pos := "law.go:16", after := #[], guard := none }) hI (by kernel_rfl) (by kernel_rfl) rfl ?_ ?_
      rotate_left
      · intro bA hb W hI KR hKR
        have e4 := hb 4
        simp only [List.getElem?_toArray, List.getElem?_cons_succ, List.getElem?_cons_zero] at e4
        clear hb
        go_simp
        exact hKR _ (Gr.refl _)
      (try simp only [Act.put, List.setIfInBounds_toArray, List.set_cons_zero, List.set_cons_succ])
      refine c_val hX (v := ?_) 3 ({ dst := some 14, op := Go.Op.indexAddr 22 (Go.Operand.tmp 12) (Go.Operand.tmp 13), type := 0, pos := "law.go:16", after := #[{ on := 1, ground := Go.Ground.data }, { on := 2, ground := Go.Ground.data }], guard := none }) hI (by kernel_rfl) (by kernel_rfl) rfl ?_ ?_
      rotate_left
      · intro bA hb W hI KR hKR
        have e12 := hb 12
        have e13 := hb 13
        simp only [List.getElem?_toArray, List.getElem?_cons_succ, List.getElem?_cons_zero] at e12 e13
        clear hb
        go_simp
        exact hKR _ (Gr.refl _)
      (try simp only [Act.put, List.setIfInBounds_toArray, List.set_cons_zero, List.set_cons_succ])
      refine c_val hX (v := ?_) 4 ({ dst := some 15, op := Go.Op.fieldAddr 36 (Go.Operand.tmp 14) 0, type := 0, pos := "law.go:16", after := #[{ on := 3, ground := Go.Ground.data }], guard := none }) hI (by kernel_rfl) (by kernel_rfl) rfl ?_ ?_
      rotate_left
      · intro bA hb W hI KR hKR
        have e14 := hb 14
        simp only [List.getElem?_toArray, List.getElem?_cons_succ, List.getElem?_cons_zero] at e14
        clear hb
        go_simp
        exact hKR _ (Gr.refl _)
      (try simp only [Act.put, List.setIfInBounds_toArray, List.set_cons_zero, List.set_cons_succ])
      refine c_val hX (v := ?_) 5 ({ dst := some 16, op := Go.Op.load 34 (Go.Operand.tmp 15), type := 34, pos := "law.go:16", after := #[{ on := 4, ground := Go.Ground.data }], guard := none }) hI (by kernel_rfl) (by kernel_rfl) rfl ?_ ?_
      rotate_left
      · intro bA hb W hI KR hKR
        have e15 := hb 15
        simp only [List.getElem?_toArray, List.getElem?_cons_succ, List.getElem?_cons_zero] at e15
        clear hb
        refine wp_load_mid 34 (.tmp 15) rfl g (o + i * 3) (ev_tmp e15) (SS (stOf x)).toList _ (range_below hI (range_st HX.out)) Try.underlying34 rfl (info34 _) ?_
        exact hKR _ (hX.refl _)
      (try simp only [Act.put, List.setIfInBounds_toArray, List.set_cons_zero, List.set_cons_succ])
      refine c_val hX (v := ?_) 6 ({ dst := some 17, op := Go.Op.move (Go.Operand.tmp 0), type := 22, pos := "law.go:16", after := #[], guard := none }) hI (by kernel_rfl) (by kernel_rfl) rfl ?_ ?_
      rotate_left
      · intro bA hb W hI KR hKR
        have e0 := hb 0
        simp only [List.getElem?_toArray, List.getElem?_cons_succ, List.getElem?_cons_zero] at e0
        clear hb
        go_simp
        exact hKR _ (Gr.refl _)
      (try simp only [Act.put, List.setIfInBounds_toArray, List.set_cons_zero, List.set_cons_succ])
      refine c_val hX (v := ?_) 7 ({ dst := some 18, op := Go.Op.move (Go.Operand.tmp 4), type := 3, pos := "law.go:16", after := #[], guard := none }) hI (by kernel_rfl) (by kernel_rfl) rfl ?_ ?_
      rotate_left
      · intro bA hb W hI KR hKR
        have e4 := hb 4
        simp only [List.getElem?_toArray, List.getElem?_cons_succ, List.getElem?_cons_zero] at e4
        clear hb
        go_simp
        exact hKR _ (Gr.refl _)
      (try simp only [Act.put, List.setIfInBounds_toArray, List.set_cons_zero, List.set_cons_succ])
      refine c_val hX (v := ?_) 8 ({ dst := some 19, op := Go.Op.indexAddr 22 (Go.Operand.tmp 17) (Go.Operand.tmp 18), type := 0, pos := "law.go:16", after := #[{ on := 6, ground := Go.Ground.data }, { on := 7, ground := Go.Ground.data }], guard := none }) hI (by kernel_rfl) (by kernel_rfl) rfl ?_ ?_
      rotate_left
      · intro bA hb W hI KR hKR
        have e17 := hb 17
        have e18 := hb 18
        simp only [List.getElem?_toArray, List.getElem?_cons_succ, List.getElem?_cons_zero] at e17 e18
        clear hb
        go_simp
        exact hKR _ (Gr.refl _)
      (try simp only [Act.put, List.setIfInBounds_toArray, List.set_cons_zero, List.set_cons_succ])
      refine c_val hX (v := ?_) 9 ({ dst := some 20, op := Go.Op.fieldAddr 36 (Go.Operand.tmp 19) 1, type := 0, pos := "law.go:16", after := #[{ on := 8, ground := Go.Ground.data }], guard := none }) hI (by kernel_rfl) (by kernel_rfl) rfl ?_ ?_
      rotate_left
      · intro bA hb W hI KR hKR
        have e19 := hb 19
        simp only [List.getElem?_toArray, List.getElem?_cons_succ, List.getElem?_cons_zero] at e19
        clear hb
        go_simp
        exact hKR _ (Gr.refl _)
      (try simp only [Act.put, List.setIfInBounds_toArray, List.set_cons_zero, List.set_cons_succ])
      refine c_val hX (v := ?_) 10 ({ dst := some 21, op := Go.Op.load 3 (Go.Operand.tmp 20), type := 3, pos := "law.go:16", after := #[{ on := 9, ground := Go.Ground.data }], guard := none }) hI (by kernel_rfl) (by kernel_rfl) rfl ?_ ?_
      rotate_left
      · intro bA hb W hI KR hKR
        have e20 := hb 20
        simp only [List.getElem?_toArray, List.getElem?_cons_succ, List.getElem?_cons_zero] at e20
        clear hb
        have cg := range_below hI HX.out 2 (.int .i64 x.g) rfl
        go_simp
        exact hKR _ (hX.refl _)
      (try simp only [Act.put, List.setIfInBounds_toArray, List.set_cons_zero, List.set_cons_succ])
      refine c_val hX (v := ?_) 11 ({ dst := some 22, op := Go.Op.build 40 #[(0, Go.Operand.tmp 16), (1, Go.Operand.tmp 21)], type := 40, pos := "law.go:16", after := #[{ on := 5, ground := Go.Ground.data }, { on := 10, ground := Go.Ground.data }], guard := none }) hI (by kernel_rfl) (by kernel_rfl) rfl ?_ ?_
      rotate_left
      · intro bA hb W hI KR hKR
        have e16 := hb 16
        have e21 := hb 21
        simp only [List.getElem?_toArray, List.getElem?_cons_succ, List.getElem?_cons_zero] at e16 e21
        clear hb
        refine wp_run (exec_build (l := [(0, .tmp 16), (1, .tmp 21)]) rfl (by simp only [List.map_cons, List.map_nil, ev_tmp e16, ev_tmp e21]; exact bd40i x W)) ?_
        exact hKR _ (hX.refl _)
      (try simp only [Act.put, List.setIfInBounds_toArray, List.set_cons_zero, List.set_cons_succ])
      refine c_main 12 ({ dst := some 23, op := Go.Op.buildSlice 27 1 #[(0, Go.Operand.tmp 22)], type := 27, pos := "law.go:16", after := #[{ on := 11, ground := Go.Ground.data }], guard := none }) (by kernel_rfl) (by kernel_rfl) rfl ?_
      intro bA hb W hW KR hKR
      have e22 := hb 22
      simp only [List.getElem?_toArray, List.getElem?_cons_succ, List.getElem?_cons_zero] at e22
      clear hb
      have hIW := hX.keep hI hW
      clear hI
      replace HO := Lib.hid (pw_own_below HO.out hW)
      refine wp_run (exec_buildSlice (l := [(0, .tmp 22)]) rfl (by simp only [List.map_cons, List.map_nil, ev_tmp e22]; exact bs27 x W)) ?_
      have hI := below_alloc hIW (.cells (IS x) 40)
      refine hKR _ _ hI ?_
      replace HO := Lib.hid (pw_own_below HO.out (below_alloc (Below.refl _ _) (.cells (IS x) 40)))
      have HG := Lib.hid (heap_alloc_new W (.cells (IS x) 40))
      have HGW := Lib.hid (show Gr W (W.alloc (.cells (IS x) 40)) from below_alloc (Below.refl _ _) _)
      (try clear hW)
      (try clear hIW)
      (try simp only [Act.put, List.setIfInBounds_toArray, List.set_cons_zero, List.set_cons_succ])
      refine c_main 13 ({ dst := some 24, op := Go.Op.call { callee := Go.Callee.builtin Go.Builtin.append, args := #[Go.Operand.tmp 11, Go.Operand.tmp 23], argTypes := #[27, 27] }, type := 27, pos := "law.go:16", after := #[{ on := 0, ground := Go.Ground.data }, { on := 12, ground := Go.Ground.data }], guard := none }) (by kernel_rfl) (by kernel_rfl) rfl ?_
      intro bA hb W hW KR hKR
      have e11 := hb 11
      have e23 := hb 23
      simp only [List.getElem?_toArray, List.getElem?_cons_succ, List.getElem?_cons_zero] at e11 e23
      clear hb
      have hIW := hX.keep hI hW
      clear hI
      replace HO := Lib.hid (pw_own_below HO.out hW)
      obtain ⟨v4, W4, r4, m4, b4, _⟩ := app_rowsI Try.underlying27 HO.out (rowI_one ((hW.block _ (heap_lt HG.out)).trans HG.out)) (.inr ⟨_, _, _, rfl⟩) hIW.size HL.out (by simp)
      refine wp_app (.tmp 11) (.tmp 23) rfl rfl (ev_tmp e11) (ev_tmp e23) r4 ?_
      have hI := hIW.grown b4 hIW.size (fun k hk => (own_lt HO.out k hk).1)
      refine hKR _ _ hI ?_
      replace HO := Lib.hid m4
      clear r4 m4 b4 HG HGW
      (try clear hW)
      (try clear hIW)
      (try simp only [Act.put, List.setIfInBounds_toArray, List.set_cons_zero, List.set_cons_succ])
      refine c_val hX (v := ?_) 14 ({ dst := some 3, op := Go.Op.assign (Go.Operand.tmp 24), type := 27, pos := "law.go:16", after := #[{ on := 13, ground := Go.Ground.data }, { on := 13, ground := Go.Ground.chain }, { on := 0, ground := Go.Ground.phase }, { on := 1, ground := Go.Ground.phase }, { on := 2, ground := Go.Ground.phase }, { on := 3, ground := Go.Ground.phase }, { on := 4, ground := Go.Ground.phase }, { on := 5, ground := Go.Ground.phase }, { on := 6, ground := Go.Ground.phase }, { on := 7, ground := Go.Ground.phase }, { on := 8, ground := Go.Ground.phase }, { on := 9, ground := Go.Ground.phase }, { on := 10, ground := Go.Ground.phase }, { on := 11, ground := Go.Ground.phase }, { on := 12, ground := Go.Ground.phase }, { on := 13, ground := Go.Ground.phase }], guard := none }) hI (by kernel_rfl) (by kernel_rfl) rfl ?_ ?_
      rotate_left
      · intro bA hb W hI KR hKR
        have e24 := hb 24
        simp only [List.getElem?_toArray, List.getElem?_cons_succ, List.getElem?_cons_zero] at e24
        clear hb
        go_simp
        exact hKR _ (Gr.refl _)
      (try simp only [Act.put, List.setIfInBounds_toArray, List.set_cons_zero, List.set_cons_succ])
      refine c_done (by kernel_rfl) ?_
      intro w2 hW
      refine hQ' _ _ ?_
      have hI := hX.keep hI hW
      clear hQ' hX
      replace HO := Lib.hid (pw_own_below HO.out hW)
      have HI := Lib.hid hI
      clear hW
      go_wp2
      go_roundw
      case rel => exact ⟨i + 1, by go_num, by omega, Lib.hid (by rw [List.take_succ_eq_append_getElem (List.getElem?_eq_some_iff.1 HXI.out).1, (List.getElem?_eq_some_iff.1 HXI.out).2]; exact HO.out), HI⟩
      case measure =>
        simp [intOf]
        omega
    · obtain rfl : i = N := by omega
      go_wp2
      go_ret
      refine ⟨_, rfl, ?_, HB.out⟩
      have := HO.out
      rw [List.take_of_length_le (by rw [← HN.out]; omega), ← HN.out] at this
      exact this
end Go.Proofs.Ytndfoohdoadkfaa
