/- The document's queue: a list, looked through. -/
import Derived.Test.YtndfoohdoadkfaaRC
set_option linter.unusedVariables false
set_option linter.unusedSimpArgs false
namespace Go.Proofs.Ytndfoohdoadkfaa
open Go.RowKit
theorem info36 (x : It) : (Try.prog.info? 36).map (·.size) = some (IS x).size := by
  rw [show (IS x).size = 3 from rfl]
  kernel_rfl
theorem info36b : (Try.prog.info? 36).map (fun i => (i.zero, i.size, i.bytes)) = some (some (.agg #[.int .i64 0, .int .i64 0, .int .i64 0]), 3, 24) := by kernel_rfl
theorem sz36 (w : World) : (sizeOf 36).run Try.prog w = .ok 3 w := by kernel_rfl
theorem rowT_range {W : World} {base T g n cap : Nat} {l : List It} {x : It} {k : Nat} (h : W.ownsRow base T 3 (.slice (some ⟨g, 0, none⟩) n cap) n (cellsI l)) (hk : l[k]? = some x) : W.rangeAt g (k * 3) (IS x).toList := row_range h hk
/-- A queue of the document: a block with a slice, a row of its own. -/
structure RV (W : World) (base g : Nat) (u : Value) (ys : List It) : Prop where
  blk : W.heap[g]? = some (.cells #[u] 31 (0, 0))
  row : W.ownsRow base 36 3 u ys.length (cellsI ys)
theorem RV.below {W W' : World} {base g : Nat} {u : Value} {ys : List It} (h : RV W base g u ys) (hb : Below W.heap.size W W') : RV W' base g u ys := ⟨(hb.block _ (heap_lt h.blk)).trans h.blk, pw_own_below h.row hb⟩
theorem RowI.ownT {W : World} {base T : Nat} {v : Value} {xs : List It} (h : W.ownsRow base T 3 v xs.length (cellsI xs)) : RowI W v xs := by
  obtain ⟨A, c, rfl⟩ := own_slice h
  refine ⟨A, c, rfl, own_le h, fun h0 => ?_⟩
  obtain ⟨g, rfl, _⟩ := own_some h h0
  exact ⟨g, 0, rfl, fun k s hk => by rw [Nat.zero_add]; exact row_range h hk⟩
theorem app_rows36 {W : World} {base : Nat} {v u : Value} {xs ys : List It} (h : W.ownsRow base 36 3 v xs.length (cellsI xs)) (r : RowI W u ys) (nz : Nz u) (hb : base ≤ W.heap.size) (hl : xs.length ≤ 1200000) (hl2 : ys.length ≤ 1200000) :
    ∃ v' w', (Builtin.append_ #[22, 22] 22 #[v, u]).run Try.prog W = .ok v' w' ∧ w'.ownsRow base 36 3 v' (xs ++ ys).length (cellsI (xs ++ ys)) ∧ W.grownBy w' v.ownBlock ∧ (v'.ownBlock = v.ownBlock ∨ v'.ownBlock = some W.heap.size) := by
  obtain ⟨i0, hi, hzz⟩ := Option.map_eq_some_iff.1 info36b
  simp only [Prod.mk.injEq] at hzz
  obtain ⟨hz0, hz1, hz2⟩ := hzz
  obtain ⟨A, c, rfl, hc, hr⟩ := r
  rcases nz with e | ⟨ad, n, c', e⟩
  · injection e with e1 e2 e3
    have : ys = [] := List.eq_nil_of_length_eq_zero e2
    subst this e1 e3
    exact ⟨v, W, run_append_owned_none W base 22 22 36 i0 3 Try.underlying22 hi v xs.length (cellsI xs) h, by simpa using h, World.grownBy.refl _ _, .inl rfl⟩
  · injection e with e1 e2 e3
    subst e1
    have hcells : ∀ j u, (cellsI ys)[j]? = some u → W.cell? (ad.add j) = some u := by
      intro j u hj
      have hjl := (List.getElem?_eq_some_iff.1 hj).1
      rw [cellsI_len] at hjl
      obtain ⟨g, o, e, hk⟩ := hr (by omega)
      injection e with e
      subst e
      exact rowI_cells hk j u hj
    obtain ⟨v', w', h1, h2, h3, h4, h5⟩ := run_append_own_at (P := Try.prog) W base 22 22 36 i0 _ 3 24 Try.underlying22 hi hz0 hz1 hz2 rfl (by omega) v xs.length (cellsI xs) h ad ys.length c (cellsI ys) (cellsI_len ys) hcells (cells_one ys) (by simp only [maxLen]; omega) (by omega) hb
    exact ⟨v', w', h1, by rw [cellsI_append, List.length_append]; exact h2, h3, h5⟩
def Fst (ys : List It) (n : Int) : Prop := (ys = [] ∧ n = -1) ∨ ∃ m : Nat, n = m ∧ m < ys.length ∧ ∀ k, k < ys.length → le (at_ ys m) (at_ ys k)
set_option maxRecDepth 10000 in
set_option maxHeartbeats 4000000 in
theorem first_any (base g : Nat) (u : Value) (ys : List It) (w : World) (h : RV w base g u ys) (hl : ys.length ≤ 2000000) :
    Calls Try.prog 41 #[.pointer (some ⟨g, 0, none⟩)] w fun e w' => ∃ n, e = .returned (.int .i64 n) ∧ Fst ys n ∧ Below w.heap.size w w' := by
  obtain ⟨A, c, rfl⟩ := own_slice h.row
  have H := Lib.hid h
  obtain ⟨N, hN⟩ : ∃ N, N = ys.length := ⟨_, rfl⟩
  have HN := Lib.hid hN
  have cg : w.cell? ⟨g, 0, none⟩ = some (.slice A ys.length c) := cell_of_heap h.blk (j := 0) rfl
  rw [← hN] at hl cg
  have CG := Lib.hid cg
  clear h hN cg
  go_enter Try.func41, Try.ntmps41
  go_wp2
  go_loopw [3, 4] (fun p n wr => ∃ (a : Int) (i : Nat), p = .int .i64 a ∧ n = .int .i64 i ∧ i ≤ N ∧ Hid (Fst (ys.take i) a) ∧ Hid (Below w.heap.size w wr)) (fun _ n _ => N - (intOf n).toNat)
  case atStart => exact ⟨-1, 0, rfl, rfl, by omega, Lib.hid (.inl ⟨by simp, rfl⟩), Lib.hid (Below.refl _ _)⟩
  case round =>
    obtain ⟨a, i, rfl, rfl, hi, HF, HB⟩ := hrel
    have HR := Lib.hid (H.out.below HB.out)
    have cg2 := cell_below HB.out CG.out
    have CG2 := Lib.hid cg2
    by_cases q : i < N
    · obtain ⟨x, hx⟩ : ∃ x, ys[i]? = some x := ⟨_, List.getElem?_eq_getElem (by rw [← HN.out]; omega)⟩
      have HXI := Lib.hid hx
      obtain ⟨g1, rfl, _⟩ := own_some H.out.row (by rw [← HN.out]; omega)
      have HX := Lib.hid (row_range HR.out.row hx)
      have q3 : (i : Int) < (N : Int) := by omega
      clear hx
      by_cases q0 : i = 0
      · subst q0
        obtain ⟨_, rfl⟩ : ys.take 0 = [] ∧ a = -1 := by
          rcases HF.out with h | ⟨m, h1, h2, h3⟩
          · exact h
          · simp at h2
        go_wp2
        refine run_region (fn := Try.f41) (id := 5) (n := 19) [] (Bw wr) Gr (by kernel_rfl) (by kernel_rfl) (by kernel_rfl) (by kernel_rfl) Gr.refl (fun _ _ _ => Gr.trans) (fun _ _ h k => bel h k) ?_
        intro Q' hQ' hX
        have hI : (Bw wr) _ := below_drew1 (Below.refl _ _)
        refine c_val hX (v := ?_) 0 ({ dst := some 14, op := Go.Op.move (Go.Operand.tmp 3), type := 3, pos := "ref.go:48", after := #[], guard := none }) hI (by kernel_rfl) (by kernel_rfl) rfl ?_ ?_
        rotate_left
        · intro bA hb W hI KR hKR
          have e3 := hb 3
          simp only [List.getElem?_toArray, List.getElem?_cons_succ, List.getElem?_cons_zero] at e3
          clear hb
          go_simp
          exact hKR _ (Gr.refl _)
        (try simp only [Act.put, List.setIfInBounds_toArray, List.set_cons_zero, List.set_cons_succ])
        refine c_val hX (v := ?_) 1 ({ dst := some 15, op := Go.Op.binOp Go.BinOp.lss 3 (Go.Operand.tmp 14) (Go.Operand.const (Go.Value.int Go.IntKind.i64 0)) 3, type := 4, pos := "ref.go:48", after := #[{ on := 0, ground := Go.Ground.data }], guard := none }) hI (by kernel_rfl) (by kernel_rfl) rfl ?_ ?_
        rotate_left
        · intro bA hb W hI KR hKR
          have e14 := hb 14
          simp only [List.getElem?_toArray, List.getElem?_cons_succ, List.getElem?_cons_zero] at e14
          clear hb
          go_simp
          exact hKR _ (Gr.refl _)
        (try simp only [Act.put, List.setIfInBounds_toArray, List.set_cons_zero, List.set_cons_succ])
        refine c_val hX (v := ?_) 2 ({ dst := some 16, op := Go.Op.move (Go.Operand.tmp 15), type := 4, pos := "ref.go:48", after := #[{ on := 1, ground := Go.Ground.data }], guard := none }) hI (by kernel_rfl) (by kernel_rfl) rfl ?_ ?_
        rotate_left
        · intro bA hb W hI KR hKR
          have e15 := hb 15
          simp only [List.getElem?_toArray, List.getElem?_cons_succ, List.getElem?_cons_zero] at e15
          clear hb
          go_simp
          exact hKR _ (Gr.refl _)
        (try simp only [Act.put, List.setIfInBounds_toArray, List.set_cons_zero, List.set_cons_succ])
        refine c_off hX 3 ({ dst := some 17, op := Go.Op.move (Go.Operand.tmp 0), type := 29, pos := "ref.go:48", after := #[{ on := 2, ground := Go.Ground.guard }], guard := some (2, false) }) hI (by kernel_rfl) (by kernel_rfl) (Bool.eq_false_iff.2 (unwanted_of (j := 2) (d := 16) rfl (by kernel_rfl) rfl (by simp))) ?_
        (try simp only [Act.put, List.setIfInBounds_toArray, List.set_cons_zero, List.set_cons_succ])
        refine c_off hX 4 ({ dst := some 18, op := Go.Op.nilCheck (Go.Operand.tmp 17), type := 0, pos := "ref.go:48", after := #[{ on := 3, ground := Go.Ground.data }, { on := 2, ground := Go.Ground.guard }], guard := some (2, false) }) hI (by kernel_rfl) (by kernel_rfl) (Bool.eq_false_iff.2 (unwanted_of (j := 2) (d := 16) rfl (by kernel_rfl) rfl (by simp))) ?_
        (try simp only [Act.put, List.setIfInBounds_toArray, List.set_cons_zero, List.set_cons_succ])
        refine c_off hX 5 ({ dst := some 19, op := Go.Op.fieldAddr 31 (Go.Operand.tmp 18) 0, type := 0, pos := "ref.go:48", after := #[{ on := 4, ground := Go.Ground.data }, { on := 2, ground := Go.Ground.guard }], guard := some (2, false) }) hI (by kernel_rfl) (by kernel_rfl) (Bool.eq_false_iff.2 (unwanted_of (j := 2) (d := 16) rfl (by kernel_rfl) rfl (by simp))) ?_
        (try simp only [Act.put, List.setIfInBounds_toArray, List.set_cons_zero, List.set_cons_succ])
        refine c_off hX 6 ({ dst := some 20, op := Go.Op.load 22 (Go.Operand.tmp 19), type := 22, pos := "ref.go:48", after := #[{ on := 5, ground := Go.Ground.data }, { on := 2, ground := Go.Ground.guard }], guard := some (2, false) }) hI (by kernel_rfl) (by kernel_rfl) (Bool.eq_false_iff.2 (unwanted_of (j := 2) (d := 16) rfl (by kernel_rfl) rfl (by simp))) ?_
        (try simp only [Act.put, List.setIfInBounds_toArray, List.set_cons_zero, List.set_cons_succ])
        refine c_off hX 7 ({ dst := some 21, op := Go.Op.move (Go.Operand.tmp 4), type := 3, pos := "ref.go:48", after := #[{ on := 2, ground := Go.Ground.guard }], guard := some (2, false) }) hI (by kernel_rfl) (by kernel_rfl) (Bool.eq_false_iff.2 (unwanted_of (j := 2) (d := 16) rfl (by kernel_rfl) rfl (by simp))) ?_
        (try simp only [Act.put, List.setIfInBounds_toArray, List.set_cons_zero, List.set_cons_succ])
        refine c_off hX 8 ({ dst := some 22, op := Go.Op.indexAddr 22 (Go.Operand.tmp 20) (Go.Operand.tmp 21), type := 0, pos := "ref.go:48", after := #[{ on := 6, ground := Go.Ground.data }, { on := 7, ground := Go.Ground.data }, { on := 2, ground := Go.Ground.guard }], guard := some (2, false) }) hI (by kernel_rfl) (by kernel_rfl) (Bool.eq_false_iff.2 (unwanted_of (j := 2) (d := 16) rfl (by kernel_rfl) rfl (by simp))) ?_
        (try simp only [Act.put, List.setIfInBounds_toArray, List.set_cons_zero, List.set_cons_succ])
        refine c_off hX 9 ({ dst := some 23, op := Go.Op.load 36 (Go.Operand.tmp 22), type := 36, pos := "ref.go:48", after := #[{ on := 8, ground := Go.Ground.data }, { on := 2, ground := Go.Ground.guard }], guard := some (2, false) }) hI (by kernel_rfl) (by kernel_rfl) (Bool.eq_false_iff.2 (unwanted_of (j := 2) (d := 16) rfl (by kernel_rfl) rfl (by simp))) ?_
        (try simp only [Act.put, List.setIfInBounds_toArray, List.set_cons_zero, List.set_cons_succ])
        refine c_off hX 10 ({ dst := some 24, op := Go.Op.move (Go.Operand.tmp 0), type := 29, pos := "ref.go:48", after := #[{ on := 2, ground := Go.Ground.guard }], guard := some (2, false) }) hI (by kernel_rfl) (by kernel_rfl) (Bool.eq_false_iff.2 (unwanted_of (j := 2) (d := 16) rfl (by kernel_rfl) rfl (by simp))) ?_
        (try simp only [Act.put, List.setIfInBounds_toArray, List.set_cons_zero, List.set_cons_succ])
        refine c_off hX 11 ({ dst := some 25, op := Go.Op.nilCheck (Go.Operand.tmp 24), type := 0, pos := "ref.go:48", after := #[{ on := 10, ground := Go.Ground.data }, { on := 2, ground := Go.Ground.guard }], guard := some (2, false) }) hI (by kernel_rfl) (by kernel_rfl) (Bool.eq_false_iff.2 (unwanted_of (j := 2) (d := 16) rfl (by kernel_rfl) rfl (by simp))) ?_
        (try simp only [Act.put, List.setIfInBounds_toArray, List.set_cons_zero, List.set_cons_succ])
        refine c_off hX 12 ({ dst := some 26, op := Go.Op.fieldAddr 31 (Go.Operand.tmp 25) 0, type := 0, pos := "ref.go:48", after := #[{ on := 11, ground := Go.Ground.data }, { on := 2, ground := Go.Ground.guard }], guard := some (2, false) }) hI (by kernel_rfl) (by kernel_rfl) (Bool.eq_false_iff.2 (unwanted_of (j := 2) (d := 16) rfl (by kernel_rfl) rfl (by simp))) ?_
        (try simp only [Act.put, List.setIfInBounds_toArray, List.set_cons_zero, List.set_cons_succ])
        refine c_off hX 13 ({ dst := some 27, op := Go.Op.load 22 (Go.Operand.tmp 26), type := 22, pos := "ref.go:48", after := #[{ on := 12, ground := Go.Ground.data }, { on := 2, ground := Go.Ground.guard }], guard := some (2, false) }) hI (by kernel_rfl) (by kernel_rfl) (Bool.eq_false_iff.2 (unwanted_of (j := 2) (d := 16) rfl (by kernel_rfl) rfl (by simp))) ?_
        (try simp only [Act.put, List.setIfInBounds_toArray, List.set_cons_zero, List.set_cons_succ])
        refine c_off hX 14 ({ dst := some 28, op := Go.Op.move (Go.Operand.tmp 3), type := 3, pos := "ref.go:48", after := #[{ on := 2, ground := Go.Ground.guard }], guard := some (2, false) }) hI (by kernel_rfl) (by kernel_rfl) (Bool.eq_false_iff.2 (unwanted_of (j := 2) (d := 16) rfl (by kernel_rfl) rfl (by simp))) ?_
        (try simp only [Act.put, List.setIfInBounds_toArray, List.set_cons_zero, List.set_cons_succ])
        refine c_off hX 15 ({ dst := some 29, op := Go.Op.indexAddr 22 (Go.Operand.tmp 27) (Go.Operand.tmp 28), type := 0, pos := "ref.go:48", after := #[{ on := 13, ground := Go.Ground.data }, { on := 14, ground := Go.Ground.data }, { on := 2, ground := Go.Ground.guard }], guard := some (2, false) }) hI (by kernel_rfl) (by kernel_rfl) (Bool.eq_false_iff.2 (unwanted_of (j := 2) (d := 16) rfl (by kernel_rfl) rfl (by simp))) ?_
        (try simp only [Act.put, List.setIfInBounds_toArray, List.set_cons_zero, List.set_cons_succ])
        refine c_off hX 16 ({ dst := some 30, op := Go.Op.load 36 (Go.Operand.tmp 29), type := 36, pos := "ref.go:48", after := #[{ on := 15, ground := Go.Ground.data }, { on := 2, ground := Go.Ground.guard }], guard := some (2, false) }) hI (by kernel_rfl) (by kernel_rfl) (Bool.eq_false_iff.2 (unwanted_of (j := 2) (d := 16) rfl (by kernel_rfl) rfl (by simp))) ?_
        (try simp only [Act.put, List.setIfInBounds_toArray, List.set_cons_zero, List.set_cons_succ])
        refine c_off hX 17 ({ dst := some 31, op := Go.Op.call { callee := Go.Callee.value (Go.Operand.func 26), args := #[Go.Operand.tmp 23, Go.Operand.tmp 30], argTypes := #[36, 36] }, type := 4, pos := "ref.go:48", after := #[{ on := 9, ground := Go.Ground.data }, { on := 16, ground := Go.Ground.data }, { on := 2, ground := Go.Ground.chain }, { on := 2, ground := Go.Ground.guard }], guard := some (2, false) }) hI (by kernel_rfl) (by kernel_rfl) (Bool.eq_false_iff.2 (unwanted_of (j := 2) (d := 16) rfl (by kernel_rfl) rfl (by simp))) ?_
        (try simp only [Act.put, List.setIfInBounds_toArray, List.set_cons_zero, List.set_cons_succ])
        refine c_val hX (v := ?_) 18 ({ dst := some 32, op := Go.Op.pick (Go.Operand.tmp 16) (Go.Operand.const (Go.Value.bool true)) (Go.Operand.tmp 31), type := 4, pos := "ref.go:48", after := #[{ on := 2, ground := Go.Ground.data }, { on := 17, ground := Go.Ground.data }], guard := none }) hI (by kernel_rfl) (by kernel_rfl) rfl ?_ ?_
        rotate_left
        · intro bA hb W hI KR hKR
          have e16 := hb 16
          have e31 := hb 31
          simp only [List.getElem?_toArray, List.getElem?_cons_succ, List.getElem?_cons_zero] at e16 e31
          clear hb
          go_simp
          exact hKR _ (Gr.refl _)
        (try simp only [Act.put, List.setIfInBounds_toArray, List.set_cons_zero, List.set_cons_succ])
        refine c_done (by kernel_rfl) ?_
        intro w2 hW
        refine hQ' _ _ ?_
        have hI := hX.keep hI hW
        clear hQ' hX hW
        have HB2 := Lib.hid (bel HB.out hI)
        go_wp2
        go_roundw
        case rel =>
          refine ⟨0, 1, rfl, by go_num, by omega, Lib.hid (.inr ⟨0, rfl, by have := (List.getElem?_eq_some_iff.1 HXI.out).1; simp; omega, fun k hk => ?_⟩), HB2⟩
          have hk1 : (ys.take 1).length ≤ 1 := by simp; omega
          obtain rfl : k = 0 := by omega
          exact le_refl _
        case measure =>
          simp [intOf]
          omega
      · obtain ⟨m, rfl, hm, hmin⟩ : ∃ m : Nat, a = m ∧ m < i ∧ ∀ k, k < i → le (at_ ys m) (at_ ys k) := by
          rcases HF.out with ⟨h, _⟩ | ⟨m, h1, h2, h3⟩
          · have := congrArg List.length h
            have hx := (List.getElem?_eq_some_iff.1 HXI.out).1
            rw [List.length_take] at this
            simp only [List.length_nil] at this
            omega
          · have hx := (List.getElem?_eq_some_iff.1 HXI.out).1
            have e : ∀ k, k < i → at_ (ys.take i) k = at_ ys k := fun k hk => by
              unfold at_
              rw [List.getD_eq_getElem?_getD, List.getD_eq_getElem?_getD, List.getElem?_take_of_lt hk]
            simp at h2
            have hNl := HN.out
            refine ⟨m, h1, by omega, fun k hk => ?_⟩
            have := h3 k (by simp; omega)
            rwa [e m (by omega), e k hk] at this
        have HMIN := Lib.hid hmin
        have hmy : ys[m]? = some (at_ ys m) := at_get (by rw [← HN.out]; omega)
        have HY := Lib.hid (row_range HR.out.row hmy)
        obtain ⟨bb, hbb⟩ : ∃ bb, befB x (at_ ys m) = bb := ⟨_, rfl⟩
        have HBB := Lib.hid hbb
        have q4 : (m : Int) < (N : Int) := by omega
        have HQ5 := Lib.hid (show decide ((m : Int) < 0) = false from decide_eq_false (by omega))
        clear hmin hmy hbb
        go_wp2
        refine run_region (fn := Try.f41) (id := 5) (n := 19) [] (Bw wr) Gr (by kernel_rfl) (by kernel_rfl) (by kernel_rfl) (by kernel_rfl) Gr.refl (fun _ _ _ => Gr.trans) (fun _ _ h k => bel h k) ?_
        intro Q' hQ' hX
        have hI : (Bw wr) _ := below_drew1 (Below.refl _ _)
        refine c_val hX (v := ?_) 0 ({ dst := some 14, op := Go.Op.move (Go.Operand.tmp 3), type := 3, pos := "ref.go:48", after := #[], guard := none }) hI (by kernel_rfl) (by kernel_rfl) rfl ?_ ?_
        rotate_left
        · intro bA hb W hI KR hKR
          have e3 := hb 3
          simp only [List.getElem?_toArray, List.getElem?_cons_succ, List.getElem?_cons_zero] at e3
          clear hb
          go_simp
          exact hKR _ (Gr.refl _)
        (try simp only [Act.put, List.setIfInBounds_toArray, List.set_cons_zero, List.set_cons_succ])
        refine c_val hX (v := ?_) 1 ({ dst := some 15, op := Go.Op.binOp Go.BinOp.lss 3 (Go.Operand.tmp 14) (Go.Operand.const (Go.Value.int Go.IntKind.i64 0)) 3, type := 4, pos := "ref.go:48", after := #[{ on := 0, ground := Go.Ground.data }], guard := none }) hI (by kernel_rfl) (by kernel_rfl) rfl ?_ ?_
        rotate_left
        · intro bA hb W hI KR hKR
          have e14 := hb 14
          simp only [List.getElem?_toArray, List.getElem?_cons_succ, List.getElem?_cons_zero] at e14
          clear hb
          go_simp
          rw [HQ5.out]
          exact hKR _ (hX.refl _)
        (try simp only [Act.put, List.setIfInBounds_toArray, List.set_cons_zero, List.set_cons_succ])
        refine c_val hX (v := ?_) 2 ({ dst := some 16, op := Go.Op.move (Go.Operand.tmp 15), type := 4, pos := "ref.go:48", after := #[{ on := 1, ground := Go.Ground.data }], guard := none }) hI (by kernel_rfl) (by kernel_rfl) rfl ?_ ?_
        rotate_left
        · intro bA hb W hI KR hKR
          have e15 := hb 15
          simp only [List.getElem?_toArray, List.getElem?_cons_succ, List.getElem?_cons_zero] at e15
          clear hb
          go_simp
          exact hKR _ (Gr.refl _)
        (try simp only [Act.put, List.setIfInBounds_toArray, List.set_cons_zero, List.set_cons_succ])
        refine c_val hX (v := ?_) 3 ({ dst := some 17, op := Go.Op.move (Go.Operand.tmp 0), type := 29, pos := "ref.go:48", after := #[{ on := 2, ground := Go.Ground.guard }], guard := some (2, false) }) hI (by kernel_rfl) (by kernel_rfl) (wanted_of (j := 2) (d := 16) rfl (by kernel_rfl) rfl) ?_ ?_
        rotate_left
        · intro bA hb W hI KR hKR
          have e0 := hb 0
          simp only [List.getElem?_toArray, List.getElem?_cons_succ, List.getElem?_cons_zero] at e0
          clear hb
          go_simp
          exact hKR _ (Gr.refl _)
        (try simp only [Act.put, List.setIfInBounds_toArray, List.set_cons_zero, List.set_cons_succ])
        refine c_val hX (v := ?_) 4 ({ dst := some 18, op := Go.Op.nilCheck (Go.Operand.tmp 17), type := 0, pos := "ref.go:48", after := #[{ on := 3, ground := Go.Ground.data }, { on := 2, ground := Go.Ground.guard }], guard := some (2, false) }) hI (by kernel_rfl) (by kernel_rfl) (wanted_of (j := 2) (d := 16) rfl (by kernel_rfl) rfl) ?_ ?_
        rotate_left
        · intro bA hb W hI KR hKR
          have e17 := hb 17
          simp only [List.getElem?_toArray, List.getElem?_cons_succ, List.getElem?_cons_zero] at e17
          clear hb
          go_simp
          exact hKR _ (Gr.refl _)
        (try simp only [Act.put, List.setIfInBounds_toArray, List.set_cons_zero, List.set_cons_succ])
        refine c_val hX (v := ?_) 5 ({ dst := some 19, op := Go.Op.fieldAddr 31 (Go.Operand.tmp 18) 0, type := 0, pos := "ref.go:48", after := #[{ on := 4, ground := Go.Ground.data }, { on := 2, ground := Go.Ground.guard }], guard := some (2, false) }) hI (by kernel_rfl) (by kernel_rfl) (wanted_of (j := 2) (d := 16) rfl (by kernel_rfl) rfl) ?_ ?_
        rotate_left
        · intro bA hb W hI KR hKR
          have e18 := hb 18
          simp only [List.getElem?_toArray, List.getElem?_cons_succ, List.getElem?_cons_zero] at e18
          clear hb
          go_simp
          exact hKR _ (Gr.refl _)
        (try simp only [Act.put, List.setIfInBounds_toArray, List.set_cons_zero, List.set_cons_succ])
        refine c_val hX (v := ?_) 6 ({ dst := some 20, op := Go.Op.load 22 (Go.Operand.tmp 19), type := 22, pos := "ref.go:48", after := #[{ on := 5, ground := Go.Ground.data }, { on := 2, ground := Go.Ground.guard }], guard := some (2, false) }) hI (by kernel_rfl) (by kernel_rfl) (wanted_of (j := 2) (d := 16) rfl (by kernel_rfl) rfl) ?_ ?_
        rotate_left
        · intro bA hb W hI KR hKR
          have e19 := hb 19
          simp only [List.getElem?_toArray, List.getElem?_cons_succ, List.getElem?_cons_zero] at e19
          clear hb
          have cc := cell_below hI CG2.out
          go_simp
          exact hKR _ (hX.refl _)
        (try simp only [Act.put, List.setIfInBounds_toArray, List.set_cons_zero, List.set_cons_succ])
        refine c_val hX (v := ?_) 7 ({ dst := some 21, op := Go.Op.move (Go.Operand.tmp 4), type := 3, pos := "ref.go:48", after := #[{ on := 2, ground := Go.Ground.guard }], guard := some (2, false) }) hI (by kernel_rfl) (by kernel_rfl) (wanted_of (j := 2) (d := 16) rfl (by kernel_rfl) rfl) ?_ ?_
        rotate_left
        · intro bA hb W hI KR hKR
          have e4 := hb 4
          simp only [List.getElem?_toArray, List.getElem?_cons_succ, List.getElem?_cons_zero] at e4
          clear hb
          go_simp
          exact hKR _ (Gr.refl _)
        (try simp only [Act.put, List.setIfInBounds_toArray, List.set_cons_zero, List.set_cons_succ])
        refine c_val hX (v := ?_) 8 ({ dst := some 22, op := Go.Op.indexAddr 22 (Go.Operand.tmp 20) (Go.Operand.tmp 21), type := 0, pos := "ref.go:48", after := #[{ on := 6, ground := Go.Ground.data }, { on := 7, ground := Go.Ground.data }, { on := 2, ground := Go.Ground.guard }], guard := some (2, false) }) hI (by kernel_rfl) (by kernel_rfl) (wanted_of (j := 2) (d := 16) rfl (by kernel_rfl) rfl) ?_ ?_
        rotate_left
        · intro bA hb W hI KR hKR
          have e20 := hb 20
          have e21 := hb 21
          simp only [List.getElem?_toArray, List.getElem?_cons_succ, List.getElem?_cons_zero] at e20 e21
          clear hb
          go_simp
          exact hKR _ (Gr.refl _)
        (try simp only [Act.put, List.setIfInBounds_toArray, List.set_cons_zero, List.set_cons_succ])
        refine c_val hX (v := ?_) 9 ({ dst := some 23, op := Go.Op.load 36 (Go.Operand.tmp 22), type := 36, pos := "ref.go:48", after := #[{ on := 8, ground := Go.Ground.data }, { on := 2, ground := Go.Ground.guard }], guard := some (2, false) }) hI (by kernel_rfl) (by kernel_rfl) (wanted_of (j := 2) (d := 16) rfl (by kernel_rfl) rfl) ?_ ?_
        rotate_left
        · intro bA hb W hI KR hKR
          have e22 := hb 22
          simp only [List.getElem?_toArray, List.getElem?_cons_succ, List.getElem?_cons_zero] at e22
          clear hb
          refine wp_load_mid 36 (.tmp 22) rfl (g1) (i * 3) (ev_tmp e22) (IS x).toList _ (range_below hI HX.out) Try.underlying36 rfl (info36 _) ?_
          exact hKR _ (hX.refl _)
        (try simp only [Act.put, List.setIfInBounds_toArray, List.set_cons_zero, List.set_cons_succ])
        refine c_val hX (v := ?_) 10 ({ dst := some 24, op := Go.Op.move (Go.Operand.tmp 0), type := 29, pos := "ref.go:48", after := #[{ on := 2, ground := Go.Ground.guard }], guard := some (2, false) }) hI (by kernel_rfl) (by kernel_rfl) (wanted_of (j := 2) (d := 16) rfl (by kernel_rfl) rfl) ?_ ?_
        rotate_left
        · intro bA hb W hI KR hKR
          have e0 := hb 0
          simp only [List.getElem?_toArray, List.getElem?_cons_succ, List.getElem?_cons_zero] at e0
          clear hb
          go_simp
          exact hKR _ (Gr.refl _)
        (try simp only [Act.put, List.setIfInBounds_toArray, List.set_cons_zero, List.set_cons_succ])
        refine c_val hX (v := ?_) 11 ({ dst := some 25, op := Go.Op.nilCheck (Go.Operand.tmp 24), type := 0, pos := "ref.go:48", after := #[{ on := 10, ground := Go.Ground.data }, { on := 2, ground := Go.Ground.guard }], guard := some (2, false) }) hI (by kernel_rfl) (by kernel_rfl) (wanted_of (j := 2) (d := 16) rfl (by kernel_rfl) rfl) ?_ ?_
        rotate_left
        · intro bA hb W hI KR hKR
          have e24 := hb 24
          simp only [List.getElem?_toArray, List.getElem?_cons_succ, List.getElem?_cons_zero] at e24
          clear hb
          go_simp
          exact hKR _ (Gr.refl _)
        (try simp only [Act.put, List.setIfInBounds_toArray, List.set_cons_zero, List.set_cons_succ])
        refine c_val hX (v := ?_) 12 ({ dst := some 26, op := Go.Op.fieldAddr 31 (Go.Operand.tmp 25) 0, type := 0, pos := "ref.go:48", after := #[{ on := 11, ground := Go.Ground.data }, { on := 2, ground := Go.Ground.guard }], guard := some (2, false) }) hI (by kernel_rfl) (by kernel_rfl) (wanted_of (j := 2) (d := 16) rfl (by kernel_rfl) rfl) ?_ ?_
        rotate_left
        · intro bA hb W hI KR hKR
          have e25 := hb 25
          simp only [List.getElem?_toArray, List.getElem?_cons_succ, List.getElem?_cons_zero] at e25
          clear hb
          go_simp
          exact hKR _ (Gr.refl _)
        (try simp only [Act.put, List.setIfInBounds_toArray, List.set_cons_zero, List.set_cons_succ])
        refine c_val hX (v := ?_) 13 ({ dst := some 27, op := Go.Op.load 22 (Go.Operand.tmp 26), type := 22, pos := "ref.go:48", after := #[{ on := 12, ground := Go.Ground.data }, { on := 2, ground := Go.Ground.guard }], guard := some (2, false) }) hI (by kernel_rfl) (by kernel_rfl) (wanted_of (j := 2) (d := 16) rfl (by kernel_rfl) rfl) ?_ ?_
        rotate_left
        · intro bA hb W hI KR hKR
          have e26 := hb 26
          simp only [List.getElem?_toArray, List.getElem?_cons_succ, List.getElem?_cons_zero] at e26
          clear hb
          have cc := cell_below hI CG2.out
          go_simp
          exact hKR _ (hX.refl _)
        (try simp only [Act.put, List.setIfInBounds_toArray, List.set_cons_zero, List.set_cons_succ])
        refine c_val hX (v := ?_) 14 ({ dst := some 28, op := Go.Op.move (Go.Operand.tmp 3), type := 3, pos := "ref.go:48", after := #[{ on := 2, ground := Go.Ground.guard }], guard := some (2, false) }) hI (by kernel_rfl) (by kernel_rfl) (wanted_of (j := 2) (d := 16) rfl (by kernel_rfl) rfl) ?_ ?_
        rotate_left
        · intro bA hb W hI KR hKR
          have e3 := hb 3
          simp only [List.getElem?_toArray, List.getElem?_cons_succ, List.getElem?_cons_zero] at e3
          clear hb
          go_simp
          exact hKR _ (Gr.refl _)
        (try simp only [Act.put, List.setIfInBounds_toArray, List.set_cons_zero, List.set_cons_succ])
        refine c_val hX (v := ?_) 15 ({ dst := some 29, op := Go.Op.indexAddr 22 (Go.Operand.tmp 27) (Go.Operand.tmp 28), type := 0, pos := "ref.go:48", after := #[{ on := 13, ground := Go.Ground.data }, { on := 14, ground := Go.Ground.data }, { on := 2, ground := Go.Ground.guard }], guard := some (2, false) }) hI (by kernel_rfl) (by kernel_rfl) (wanted_of (j := 2) (d := 16) rfl (by kernel_rfl) rfl) ?_ ?_
        rotate_left
        · intro bA hb W hI KR hKR
          have e27 := hb 27
          have e28 := hb 28
          simp only [List.getElem?_toArray, List.getElem?_cons_succ, List.getElem?_cons_zero] at e27 e28
          clear hb
          go_simp
          exact hKR _ (Gr.refl _)
        (try simp only [Act.put, List.setIfInBounds_toArray, List.set_cons_zero, List.set_cons_succ])
        refine c_val hX (v := ?_) 16 ({ dst := some 30, op := Go.Op.load 36 (Go.Operand.tmp 29), type := 36, pos := "ref.go:48", after := #[{ on := 15, ground := Go.Ground.data }, { on := 2, ground := Go.Ground.guard }], guard := some (2, false) }) hI (by kernel_rfl) (by kernel_rfl) (wanted_of (j := 2) (d := 16) rfl (by kernel_rfl) rfl) ?_ ?_
        rotate_left
        · intro bA hb W hI KR hKR
          have e29 := hb 29
          simp only [List.getElem?_toArray, List.getElem?_cons_succ, List.getElem?_cons_zero] at e29
          clear hb
          refine wp_load_mid 36 (.tmp 29) rfl (g1) (m * 3) (ev_tmp e29) (IS (at_ ys m)).toList _ (range_below hI HY.out) Try.underlying36 rfl (info36 _) ?_
          exact hKR _ (hX.refl _)
        (try simp only [Act.put, List.setIfInBounds_toArray, List.set_cons_zero, List.set_cons_succ])
        refine c_val hX (v := ?_) 17 ({ dst := some 31, op := Go.Op.call { callee := Go.Callee.value (Go.Operand.func 26), args := #[Go.Operand.tmp 23, Go.Operand.tmp 30], argTypes := #[36, 36] }, type := 4, pos := "ref.go:48", after := #[{ on := 9, ground := Go.Ground.data }, { on := 16, ground := Go.Ground.data }, { on := 2, ground := Go.Ground.chain }, { on := 2, ground := Go.Ground.guard }], guard := some (2, false) }) hI (by kernel_rfl) (by kernel_rfl) (wanted_of (j := 2) (d := 16) rfl (by kernel_rfl) rfl) ?_ ?_
        rotate_left
        · intro bA hb W hI KR hKR
          have e23 := hb 23
          have e30 := hb 30
          simp only [List.getElem?_toArray, List.getElem?_cons_succ, List.getElem?_cons_zero] at e23 e30
          clear hb
          go_simp
          go_at_call 26
          refine (rbef_any x (at_ ys m) _).mono ?_
          rintro e w1 ⟨rfl, hb⟩
          rw [HBB.out]
          exact hKR _ hb
        (try simp only [Act.put, List.setIfInBounds_toArray, List.set_cons_zero, List.set_cons_succ])
        refine c_val hX (v := ?_) 18 ({ dst := some 32, op := Go.Op.pick (Go.Operand.tmp 16) (Go.Operand.const (Go.Value.bool true)) (Go.Operand.tmp 31), type := 4, pos := "ref.go:48", after := #[{ on := 2, ground := Go.Ground.data }, { on := 17, ground := Go.Ground.data }], guard := none }) hI (by kernel_rfl) (by kernel_rfl) rfl ?_ ?_
        rotate_left
        · intro bA hb W hI KR hKR
          have e16 := hb 16
          have e31 := hb 31
          simp only [List.getElem?_toArray, List.getElem?_cons_succ, List.getElem?_cons_zero] at e16 e31
          clear hb
          go_simp
          exact hKR _ (Gr.refl _)
        (try simp only [Act.put, List.setIfInBounds_toArray, List.set_cons_zero, List.set_cons_succ])
        refine c_done (by kernel_rfl) ?_
        intro w2 hW
        refine hQ' _ _ ?_
        have hI := hX.keep hI hW
        clear hQ' hX hW
        have HB2 := Lib.hid (bel HB.out hI)
        have hxa : x = at_ ys i := by
          unfold at_
          rw [List.getD_eq_getElem?_getD, HXI.out]
          rfl
        have HXA := Lib.hid hxa
        clear hxa
        by_cases qb : bb = true
        · subst qb
          go_wp2
          go_roundw
          case rel =>
            refine ⟨i, i + 1, rfl, by go_num, by omega, Lib.hid (.inr ⟨i, rfl, by have := (List.getElem?_eq_some_iff.1 HXI.out).1; simp; omega, fun k hk => ?_⟩), HB2⟩
            simp at hk
            have hNl := HN.out
            have e : ∀ k, k < i + 1 → at_ (ys.take (i + 1)) k = at_ ys k := fun k hk => by
              unfold at_
              rw [List.getD_eq_getElem?_getD, List.getD_eq_getElem?_getD, List.getElem?_take_of_lt hk]
            rw [e i (by omega), e k (by omega)]
            have h1 := le_of_bef HBB.out
            rw [HXA.out] at h1
            rcases Nat.lt_or_ge k i with h | h
            · exact le_trans h1 (HMIN.out k h)
            · obtain rfl : k = i := by omega
              exact le_refl _
          case measure =>
            simp [intOf]
            omega
        · have hbf : bb = false := by simpa using qb
          subst hbf
          go_wp2
          go_roundw
          case rel =>
            refine ⟨m, i + 1, rfl, by go_num, by omega, Lib.hid (.inr ⟨m, rfl, by have := (List.getElem?_eq_some_iff.1 HXI.out).1; simp; omega, fun k hk => ?_⟩), HB2⟩
            simp at hk
            have hNl := HN.out
            have e : ∀ k, k < i + 1 → at_ (ys.take (i + 1)) k = at_ ys k := fun k hk => by
              unfold at_
              rw [List.getD_eq_getElem?_getD, List.getD_eq_getElem?_getD, List.getElem?_take_of_lt hk]
            rw [e m (by omega), e k (by omega)]
            rcases Nat.lt_or_ge k i with h | h
            · exact HMIN.out k h
            · obtain rfl : k = i := by omega
              have h1 : le (at_ ys m) x := HBB.out
              rw [HXA.out] at h1
              exact h1
          case measure =>
            simp [intOf]
            omega
    · obtain rfl : i = N := by omega
      go_wp2
      go_ret
      refine ⟨a, rfl, ?_, HB.out⟩
      have := HF.out
      rwa [List.take_of_length_le (by rw [← HN.out]; omega)] at this
end Go.Proofs.Ytndfoohdoadkfaa
