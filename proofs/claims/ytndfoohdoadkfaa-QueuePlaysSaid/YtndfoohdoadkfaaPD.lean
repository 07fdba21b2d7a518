/- The law's step: an act on both. -/
import Derived.Test.YtndfoohdoadkfaaPC
set_option linter.unusedVariables false
set_option linter.unusedSimpArgs false
namespace Go.Proofs.Ytndfoohdoadkfaa
open Go.RowKit
/-- What an act on both leaves alone. -/
structure Fr2 (base b g : Nat) (v u : Value) (w : World) (v' u' : Value) (W : World) : Prop where
  size : w.heap.size ≤ W.heap.size
  far : ∀ k, k < w.heap.size → k ≠ b → v.ownBlock ≠ some k → k ≠ g → u.ownBlock ≠ some k → W.heap[k]? = w.heap[k]?
  ownv : ∀ k, v'.ownBlock = some k → v.ownBlock = some k ∨ w.heap.size ≤ k
  ownu : ∀ k, u'.ownBlock = some k → u.ownBlock = some k ∨ w.heap.size ≤ k
  bel : ∀ B w0, B ≤ base → B ≤ b → B ≤ g → Below B w0 w → Below B w0 W
theorem Fr2.start {base b g : Nat} {v u : Value} {w W : World} (h : Gr w W) (hb : base ≤ w.heap.size) : Fr2 base b g v u w v u W :=
  ⟨h.size, fun k hk _ _ _ _ => h.block k hk, fun _ q => .inl q, fun _ q => .inl q, fun B w0 h1 _ _ h3 => h3.trans (h.mono (by omega))⟩
theorem Fr2.up {base b g : Nat} {v u v' u' : Value} {w W W' : World} (h : Fr2 base b g v u w v' u' W) (k : Gr W W') (hb : base ≤ w.heap.size) : Fr2 base b g v u w v' u' W' :=
  ⟨Nat.le_trans h.size k.size, fun j hj h1 h2 h3 h4 => (k.block j (Nat.lt_of_lt_of_le hj h.size)).trans (h.far j hj h1 h2 h3 h4), h.ownv, h.ownu, fun B w0 h1 h2 h3 h4 => (h.bel B w0 h1 h2 h3 h4).trans (k.mono (by have := h.size; omega))⟩
theorem Fr2.q {base b g : Nat} {v u v1 u1 v2 : Value} {w W W' : World} (h : Fr2 base b g v u w v1 u1 W) (p : Pq base b v1 W v2 W') : Fr2 base b g v u w v2 u1 W' :=
  ⟨Nat.le_trans h.size p.size, fun j hj h1 h2 h3 h4 => (p.far j (Nat.lt_of_lt_of_le hj h.size) h1 (fun e => by rcases h.ownv j e with q | q; exact h2 q; omega)).trans (h.far j hj h1 h2 h3 h4),
    fun k hk => by rcases p.own k hk with q | q; exact h.ownv k q; exact .inr (Nat.le_trans h.size q), h.ownu, fun B w0 h1 h2 h3 h4 => p.bel B w0 h1 h2 (h.bel B w0 h1 h2 h3 h4)⟩
theorem Fr2.r {base b g : Nat} {v u v1 u1 u2 : Value} {w W W' : World} (h : Fr2 base b g v u w v1 u1 W) (p : Pq base g u1 W u2 W') : Fr2 base b g v u w v1 u2 W' :=
  ⟨Nat.le_trans h.size p.size, fun j hj h1 h2 h3 h4 => (p.far j (Nat.lt_of_lt_of_le hj h.size) h3 (fun e => by rcases h.ownu j e with q | q; exact h4 q; omega)).trans (h.far j hj h1 h2 h3 h4),
    h.ownv, fun k hk => by rcases p.own k hk with q | q; exact h.ownu k q; exact .inr (Nat.le_trans h.size q), fun B w0 h1 h2 h3 h4 => p.bel B w0 h1 h3 (h.bel B w0 h1 h2 h3 h4)⟩
theorem Fr2.rw {base b g t : Nat} {v u v1 u1 : Value} {w W W' : World} (h : Fr2 base b g v u w v1 u1 W) (r : Rw t W W') (ht : w.heap.size ≤ t) (hb : base ≤ w.heap.size) : Fr2 base b g v u w v1 u1 W' :=
  ⟨by rw [r.size]; exact h.size, fun j hj h1 h2 h3 h4 => (r.far j (by omega)).trans (h.far j hj h1 h2 h3 h4), h.ownv, h.ownu, fun B w0 h1 h2 h3 h4 => r.bel B w0 (by omega) (h.bel B w0 h1 h2 h3 h4)⟩
/-- Behind an act. -/
def StepPost (base gq b g : Nat) (v u : Value) (n : Nat) (w : World) (e : Ending) (w' : World) : Prop :=
  e = .returned (.bool true) ∧ ∃ v' xs' u' ys', QV w' base gq b v' xs' ∧ RV w' base g u' ys' ∧ Rel xs' ys' ∧ xs'.length ≤ n + 1 ∧ Fr2 base b g v u w v' u' w'
theorem range_sub {W : World} {g : Nat} {T : TypeId} {cells : Array Value} (h : W.heap[g]? = some (.cells cells T (0, 0))) (o : Nat) (l : List Value) (hl : (cells.toList.drop o).take l.length = l) : W.rangeAt g o l := by
  refine range_of_heap h o l fun j v hv => ?_
  have hj := (List.getElem?_eq_some_iff.1 hv).1
  rw [← hl, List.getElem?_take_of_lt hj, List.getElem?_drop] at hv
  simpa using hv
theorem exec_eql34s {ρ : Operand → Value} {o : Oper} {x y : Operand} {t : TypeId} {p q : St} {w : World} (ho : o.op = .binOp .eql 34 x y t) (hx : ρ x = .agg (SS p)) (hy : ρ y = .agg (SS q)) (h : p = q) : (execOp ρ o).run Try.prog w = .ok (.value (.bool true)) w := by
  rw [exec_eql34 ho hx hy, decide_eq_true h]
/-- The three blocks of the step's own. -/
def S3 (bx : Nat) (k : Int) (x : It) (W : World) : Prop := W.heap[bx]? = some (.cells #[.int .i64 k, .int .i64 x.t, .int .i64 x.r, .int .i64 x.g] 38 (0, 0)) ∧ W.heap[bx + 1]? = some (.cells (IS I0) 40 (0, 0)) ∧ W.heap[bx + 1 + 1]? = some (.cells (IS I0) 36 (0, 0))
theorem S3.up {bx : Nat} {k : Int} {x : It} {W W' : World} (h : S3 bx k x W) (g : Gr W W') : S3 bx k x W' :=
  ⟨(g.block _ (heap_lt h.1)).trans h.1, (g.block _ (heap_lt h.2.1)).trans h.2.1, (g.block _ (heap_lt h.2.2)).trans h.2.2⟩
theorem S3.pq {bx base b : Nat} {k : Int} {x : It} {v v' : Value} {W W' : World} (h : S3 bx k x W) (p : Pq base b v W v' W') (hb : b < bx) (hv : ∀ j, v.ownBlock = some j → j < bx) : S3 bx k x W' :=
  ⟨p.stay' h.1 (by omega) (fun e => by have := hv _ e; omega), p.stay' h.2.1 (by omega) (fun e => by have := hv _ e; omega), p.stay' h.2.2 (by omega) (fun e => by have := hv _ e; omega)⟩
set_option maxRecDepth 10000 in
set_option maxHeartbeats 8000000 in
theorem step_any (base gq b g : Nat) (v u : Value) (xs ys : List It) (k : Int) (x : It) (w : World) (hq : QV w base gq b v xs) (hr : RV w base g u ys) (hbase : base ≤ w.heap.size) (hl : xs.length < 900000) (hrel : Rel xs ys) :
    Calls Try.prog 11 #[qp gq, .pointer (some ⟨g, 0, none⟩), .agg #[.int .i64 k, .int .i64 x.t, .int .i64 x.r, .int .i64 x.g]] w (StepPost base gq b g v u xs.length w) := by
  obtain ⟨W3, hW3⟩ : ∃ W3, W3 = ((w.alloc (.cells #[.int .i64 k, .int .i64 x.t, .int .i64 x.r, .int .i64 x.g] 38)).alloc (.cells #[.int .i64 0, .int .i64 0, .int .i64 0] 40)).alloc (.cells #[.int .i64 0, .int .i64 0, .int .i64 0] 36) := ⟨_, rfl⟩
  have hb3 : Below w.heap.size w W3 := by rw [hW3]; exact below_alloc (below_alloc (below_alloc (Below.refl _ _) _) _) _
  have HB3 := Lib.hid hb3
  have HQ := Lib.hid (hq.below hb3)
  have HR := Lib.hid (hr.below hb3)
  have h5 : W3.heap[w.heap.size]? = some (.cells #[.int .i64 k, .int .i64 x.t, .int .i64 x.r, .int .i64 x.g] 38 (0, 0)) := by
    rw [hW3]
    have := (below_alloc (below_alloc (Below.refl (w.alloc (.cells #[.int .i64 k, .int .i64 x.t, .int .i64 x.r, .int .i64 x.g] 38)).heap.size _) (.cells #[.int .i64 0, .int .i64 0, .int .i64 0] 40)) (.cells #[.int .i64 0, .int .i64 0, .int .i64 0] 36)).block w.heap.size (by simp)
    exact this.trans (heap_alloc_new w _)
  have h7 : W3.heap[w.heap.size + 1]? = some (.cells #[.int .i64 0, .int .i64 0, .int .i64 0] 40 (0, 0)) := by
    rw [hW3]
    exact (heap_alloc_old _ _ (by simp)).trans (heap_new_at (by simp))
  have h8 : W3.heap[w.heap.size + 1 + 1]? = some (.cells #[.int .i64 0, .int .i64 0, .int .i64 0] 36 (0, 0)) := by
    rw [hW3]
    exact heap_new_at (by simp)
  have H5 := Lib.hid h5
  have H7 := Lib.hid h7
  have H8 := Lib.hid h8
  have c5 : W3.cell? ⟨w.heap.size, 0, none⟩ = some (.int .i64 k) := cell_of_heap h5 (j := 0) rfl
  have hgb := heap_lt hq.pv.blk
  have hgq := heap_lt hq.q
  have hgr := heap_lt hr.blk
  have HOV := Lib.hid (fun j hj => (own_lt hq.pv.row j hj).2)
  have HOU := Lib.hid (fun j hj => (own_lt hr.row j hj).2)
  have HBS := Lib.hid hbase
  have HRel := Lib.hid hrel
  have HL := Lib.hid hl
  have HP1 := Lib.hid (show Fr2 base b g v u w v u W3 from Fr2.start hb3 hbase)
  clear hq hr h5 h7 h8 hb3 hbase hrel hl
  go_enter Try.func11, Try.ntmps11
  by_cases k0 : k = 0
  · subst k0
    go_wp2
    rw [← hW3]
    clear hW3 c5
    refine run_region (fn := Try.f11) (id := 9) (n := 15) [] (S3 w.heap.size 0 x) Gr (by kernel_rfl) (by kernel_rfl) (by kernel_rfl) (by kernel_rfl) Gr.refl (fun _ _ _ => Gr.trans) (fun _ _ h k => h.up k) ?_
    intro Q' hQ' hX
    have hI : (S3 w.heap.size 0 x) _ := (show S3 w.heap.size 0 x W3.drew from ⟨H5.out, H7.out, H8.out⟩)
    (try simp only [Act.put, List.setIfInBounds_toArray, List.set_cons_zero, List.set_cons_succ])
    have hwd : Gr W3 W3.drew := (Below.refl _ _).drew
    refine c_val hX (v := ?_) 0 ({ dst := some 25, op := Go.Op.move (Go.Operand.tmp 0), type := 25, pos := "law.go:86", after := #[], guard := none }) hI (by kernel_rfl) (by kernel_rfl) rfl ?_ ?_
    rotate_left
    · intro bA hb W hI KR hKR
      have e0 := hb 0
      simp only [List.getElem?_toArray, List.getElem?_cons_succ, List.getElem?_cons_zero] at e0
      clear hb
      go_simp
      exact hKR _ (Gr.refl _)
    (try simp only [Act.put, List.setIfInBounds_toArray, List.set_cons_zero, List.set_cons_succ])
    refine c_val hX (v := ?_) 1 ({ dst := some 26, op := Go.Op.fieldAddr 38 (Go.Operand.tmp 5) 1, type := 0, pos := "law.go:86", after := #[], guard := none }) hI (by kernel_rfl) (by kernel_rfl) rfl ?_ ?_
    rotate_left
    · intro bA hb W hI KR hKR
      have e5 := hb 5
      simp only [List.getElem?_toArray, List.getElem?_cons_succ, List.getElem?_cons_zero] at e5
      clear hb
      go_simp
      exact hKR _ (Gr.refl _)
    (try simp only [Act.put, List.setIfInBounds_toArray, List.set_cons_zero, List.set_cons_succ])
    refine c_val hX (v := ?_) 2 ({ dst := some 27, op := Go.Op.fieldAddr 36 (Go.Operand.tmp 26) 0, type := 0, pos := "law.go:86", after := #[{ on := 1, ground := Go.Ground.data }], guard := none }) hI (by kernel_rfl) (by kernel_rfl) rfl ?_ ?_
    rotate_left
    · intro bA hb W hI KR hKR
      have e26 := hb 26
      simp only [List.getElem?_toArray, List.getElem?_cons_succ, List.getElem?_cons_zero] at e26
      clear hb
      go_simp
      exact hKR _ (Gr.refl _)
    (try simp only [Act.put, List.setIfInBounds_toArray, List.set_cons_zero, List.set_cons_succ])
    refine c_val hX (v := ?_) 3 ({ dst := some 28, op := Go.Op.load 34 (Go.Operand.tmp 27), type := 34, pos := "law.go:86", after := #[{ on := 2, ground := Go.Ground.data }], guard := none }) hI (by kernel_rfl) (by kernel_rfl) rfl ?_ ?_
    rotate_left
    · intro bA hb W hI KR hKR
      have e27 := hb 27
      simp only [List.getElem?_toArray, List.getElem?_cons_succ, List.getElem?_cons_zero] at e27
      clear hb
      refine wp_load_mid 34 (.tmp 27) rfl (w.heap.size) (1) (ev_tmp e27) (SS (stOf x)).toList _ (range_sub hI.1 1 _ rfl) Try.underlying34 rfl (info34 _) ?_
      exact hKR _ (hX.refl _)
    (try simp only [Act.put, List.setIfInBounds_toArray, List.set_cons_zero, List.set_cons_succ])
    refine c_val hX (v := ?_) 4 ({ dst := some 29, op := Go.Op.fieldAddr 38 (Go.Operand.tmp 5) 1, type := 0, pos := "law.go:86", after := #[], guard := none }) hI (by kernel_rfl) (by kernel_rfl) rfl ?_ ?_
    rotate_left
    · intro bA hb W hI KR hKR
      have e5 := hb 5
      simp only [List.getElem?_toArray, List.getElem?_cons_succ, List.getElem?_cons_zero] at e5
      clear hb
      go_simp
      exact hKR _ (Gr.refl _)
    (try simp only [Act.put, List.setIfInBounds_toArray, List.set_cons_zero, List.set_cons_succ])
    refine c_val hX (v := ?_) 5 ({ dst := some 30, op := Go.Op.fieldAddr 36 (Go.Operand.tmp 29) 1, type := 0, pos := "law.go:86", after := #[{ on := 4, ground := Go.Ground.data }], guard := none }) hI (by kernel_rfl) (by kernel_rfl) rfl ?_ ?_
    rotate_left
    · intro bA hb W hI KR hKR
      have e29 := hb 29
      simp only [List.getElem?_toArray, List.getElem?_cons_succ, List.getElem?_cons_zero] at e29
      clear hb
      go_simp
      exact hKR _ (Gr.refl _)
    (try simp only [Act.put, List.setIfInBounds_toArray, List.set_cons_zero, List.set_cons_succ])
    refine c_val hX (v := ?_) 6 ({ dst := some 31, op := Go.Op.load 3 (Go.Operand.tmp 30), type := 3, pos := "law.go:86", after := #[{ on := 5, ground := Go.Ground.data }], guard := none }) hI (by kernel_rfl) (by kernel_rfl) rfl ?_ ?_
    rotate_left
    · intro bA hb W hI KR hKR
      have e30 := hb 30
      simp only [List.getElem?_toArray, List.getElem?_cons_succ, List.getElem?_cons_zero] at e30
      clear hb
      have cc := cell_of_heap hI.1 (j := 3) rfl
      go_simp
      exact hKR _ (hX.refl _)
    (try simp only [Act.put, List.setIfInBounds_toArray, List.set_cons_zero, List.set_cons_succ])
    refine c_val hX (v := ?_) 7 ({ dst := some 32, op := Go.Op.build 40 #[(0, Go.Operand.tmp 28), (1, Go.Operand.tmp 31)], type := 40, pos := "law.go:86", after := #[{ on := 3, ground := Go.Ground.data }, { on := 6, ground := Go.Ground.data }], guard := none }) hI (by kernel_rfl) (by kernel_rfl) rfl ?_ ?_
    rotate_left
    · intro bA hb W hI KR hKR
      have e28 := hb 28
      have e31 := hb 31
      simp only [List.getElem?_toArray, List.getElem?_cons_succ, List.getElem?_cons_zero] at e28 e31
      clear hb
      refine wp_run (exec_build (l := [(0, .tmp 28), (1, .tmp 31)]) rfl (by simp only [List.map_cons, List.map_nil, ev_tmp e28, ev_tmp e31]; exact bd40i x W)) ?_
      exact hKR _ (hX.refl _)
    (try simp only [Act.put, List.setIfInBounds_toArray, List.set_cons_zero, List.set_cons_succ])
    refine c_val hX (v := ?_) 10 ({ dst := some 35, op := Go.Op.move (Go.Operand.tmp 1), type := 29, pos := "law.go:86", after := #[], guard := none }) hI (by kernel_rfl) (by kernel_rfl) rfl ?_ ?_
    rotate_left
    · intro bA hb W hI KR hKR
      have e1 := hb 1
      simp only [List.getElem?_toArray, List.getElem?_cons_succ, List.getElem?_cons_zero] at e1
      clear hb
      go_simp
      exact hKR _ (Gr.refl _)
    (try simp only [Act.put, List.setIfInBounds_toArray, List.set_cons_zero, List.set_cons_succ])
    refine c_val hX (v := ?_) 11 ({ dst := some 36, op := Go.Op.fieldAddr 38 (Go.Operand.tmp 5) 1, type := 0, pos := "law.go:86", after := #[], guard := none }) hI (by kernel_rfl) (by kernel_rfl) rfl ?_ ?_
    rotate_left
    · intro bA hb W hI KR hKR
      have e5 := hb 5
      simp only [List.getElem?_toArray, List.getElem?_cons_succ, List.getElem?_cons_zero] at e5
      clear hb
      go_simp
      exact hKR _ (Gr.refl _)
    (try simp only [Act.put, List.setIfInBounds_toArray, List.set_cons_zero, List.set_cons_succ])
    refine c_val hX (v := ?_) 12 ({ dst := some 37, op := Go.Op.load 36 (Go.Operand.tmp 36), type := 36, pos := "law.go:86", after := #[{ on := 11, ground := Go.Ground.data }], guard := none }) hI (by kernel_rfl) (by kernel_rfl) rfl ?_ ?_
    rotate_left
    · intro bA hb W hI KR hKR
      have e36 := hb 36
      simp only [List.getElem?_toArray, List.getElem?_cons_succ, List.getElem?_cons_zero] at e36
      clear hb
      refine wp_load_mid 36 (.tmp 36) rfl w.heap.size 1 (ev_tmp e36) (IS x).toList _ (range_sub hI.1 1 _ rfl) Try.underlying36 rfl (info36 _) ?_
      exact hKR _ (hX.refl _)
    (try simp only [Act.put, List.setIfInBounds_toArray, List.set_cons_zero, List.set_cons_succ])
    refine c_main 8 ({ dst := some 33, op := Go.Op.call { callee := Go.Callee.value (Go.Operand.func 15), args := #[Go.Operand.tmp 25, Go.Operand.tmp 32], argTypes := #[25, 40] }, type := 44, pos := "law.go:86", after := #[{ on := 0, ground := Go.Ground.data }, { on := 7, ground := Go.Ground.data }], guard := none }) (by kernel_rfl) (by kernel_rfl) rfl ?_
    intro bA hb W hW KR hKR
    have e25 := hb 25
    have e32 := hb 32
    simp only [List.getElem?_toArray, List.getElem?_cons_succ, List.getElem?_cons_zero] at e25 e32
    clear hb
    have hIW := hX.keep hI hW
    clear hI
    have hW' := hwd.trans hW
    replace HQ := Lib.hid (HQ.out.below hW')
    replace HR := Lib.hid (HR.out.below hW')
    replace HP1 := Lib.hid (HP1.out.up hW' HBS.out)
    go_simp
    go_at_call 15
    refine (q_push base gq b v xs x _ HQ.out (Nat.le_trans HBS.out HP1.out.size) (by have := HL.out; omega)).mono ?_
    rintro e w1 ⟨rfl, v1, hq1, hp1⟩
    have hI := hIW.pq hp1 hgb HOV.out
    refine hKR _ _ hI ?_
    replace HR := Lib.hid (HR.out.over HQ.out hp1)
    replace HQ := Lib.hid hq1
    replace HP1 := Lib.hid (HP1.out.q hp1)
    clear hq1 hp1 hW'
    (try clear hW)
    (try clear hIW)
    (try simp only [Act.put, List.setIfInBounds_toArray, List.set_cons_zero, List.set_cons_succ])
    refine c_val hX (v := ?_) 9 ({ dst := some 34, op := Go.Op.call { callee := Go.Callee.value (Go.Operand.func 14), args := #[Go.Operand.tmp 33], argTypes := #[44] }, type := 3, pos := "law.go:86", after := #[{ on := 8, ground := Go.Ground.data }, { on := 8, ground := Go.Ground.chain }], guard := none }) hI (by kernel_rfl) (by kernel_rfl) rfl ?_ ?_
    rotate_left
    · intro bA hb W hI KR hKR
      have e33 := hb 33
      simp only [List.getElem?_toArray, List.getElem?_cons_succ, List.getElem?_cons_zero] at e33
      clear hb
      go_simp
      go_at_call 14
      refine (num_is _ _).mono ?_
      rintro e w1 ⟨rfl, rfl⟩
      exact hKR _ (hX.refl _)
    (try simp only [Act.put, List.setIfInBounds_toArray, List.set_cons_zero, List.set_cons_succ])
    refine c_main 13 ({ dst := some 38, op := Go.Op.call { callee := Go.Callee.value (Go.Operand.func 29), args := #[Go.Operand.tmp 35, Go.Operand.tmp 37], argTypes := #[29, 36] }, type := 3, pos := "law.go:86", after := #[{ on := 10, ground := Go.Ground.data }, { on := 12, ground := Go.Ground.data }, { on := 9, ground := Go.Ground.chain }], guard := none }) (by kernel_rfl) (by kernel_rfl) rfl ?_
    intro bA hb W hW KR hKR
    have e35 := hb 35
    have e37 := hb 37
    simp only [List.getElem?_toArray, List.getElem?_cons_succ, List.getElem?_cons_zero] at e35 e37
    clear hb
    have hIW := hX.keep hI hW
    clear hI
    replace HQ := Lib.hid (HQ.out.below hW)
    replace HR := Lib.hid (HR.out.below hW)
    replace HP1 := Lib.hid (HP1.out.up hW HBS.out)
    go_simp
    go_at_call 29
    refine (rpush base g u ys x _ HR.out (Nat.le_trans HBS.out HP1.out.size) (by have := HL.out; have := HRel.out.len; omega)).mono ?_
    rintro e w4 ⟨rfl, u1, hr1, hp2⟩
    have hI := hIW.pq hp2 hgr HOU.out
    refine hKR _ _ hI ?_
    replace HQ := Lib.hid (HQ.out.over HR.out hp2)
    replace HR := Lib.hid hr1
    replace HP1 := Lib.hid (HP1.out.r hp2)
    clear hr1 hp2
    (try clear hW)
    (try clear hIW)
    (try simp only [Act.put, List.setIfInBounds_toArray, List.set_cons_zero, List.set_cons_succ])
    refine c_val hX (v := ?_) 14 ({ dst := some 39, op := Go.Op.binOp Go.BinOp.neq 3 (Go.Operand.tmp 34) (Go.Operand.tmp 38) 3, type := 4, pos := "law.go:86", after := #[{ on := 9, ground := Go.Ground.data }, { on := 13, ground := Go.Ground.data }], guard := none }) hI (by kernel_rfl) (by kernel_rfl) rfl ?_ ?_
    rotate_left
    · intro bA hb W hI KR hKR
      have e34 := hb 34
      have e38 := hb 38
      simp only [List.getElem?_toArray, List.getElem?_cons_succ, List.getElem?_cons_zero] at e34 e38
      clear hb
      go_simp
      exact hKR _ (Gr.refl _)
    (try simp only [Act.put, List.setIfInBounds_toArray, List.set_cons_zero, List.set_cons_succ])
    refine c_done (by kernel_rfl) ?_
    intro w5 hW
    refine hQ' _ _ ?_
    have hI := hX.keep hI hW
    clear hQ' hX
    replace HQ := Lib.hid (HQ.out.below hW)
    replace HR := Lib.hid (HR.out.below hW)
    replace HP1 := Lib.hid (HP1.out.up hW HBS.out)
    have HRel1 := Lib.hid (HRel.out.push x)
    have HLen := Lib.hid (show (pushL xs x).length ≤ xs.length + 1 from by simp [pushL, upL_len])
    have HB7 := Lib.hid hI.2.1
    have HB8 := Lib.hid hI.2.2
    clear hW hI hwd
    go_wp2
    have HY7 := Lib.hid (range_st (range_of_heap HB7.out 0 (IS I0).toList (fun j v hv => by simpa using hv)))
    have HY8 := Lib.hid (range_st (range_of_heap HB8.out 0 (IS I0).toList (fun j v hv => by simpa using hv)))
    have HC7 := Lib.hid (show w5.cell? ⟨w.heap.size + 1, 2, none⟩ = some (.int .i64 (It.g I0)) from cell_of_heap HB7.out (j := 2) rfl)
    have HC8 := Lib.hid (show w5.cell? ⟨w.heap.size + 1 + 1, 2, none⟩ = some (.int .i64 (It.g I0)) from cell_of_heap HB8.out (j := 2) rfl)
    obtain ⟨A9, c9, e9⟩ := own_slice HR.out.row
    subst e9
    have HLeq := Lib.hid HRel1.out.len
    refine run_region (fn := Try.f11) (id := 14) (n := 28) [] (Bw w5) Gr (by kernel_rfl) (by kernel_rfl) (by kernel_rfl) (by kernel_rfl) Gr.refl (fun _ _ _ => Gr.trans) (fun _ _ h k => bel h k) ?_
    intro Q' hQ' hX
    have hI : (Bw w5) _ := below_drew1 (Below.refl _ _)
    (try simp only [Act.put, List.setIfInBounds_toArray, List.set_cons_zero, List.set_cons_succ])
    refine c_val hX (v := ?_) 0 ({ dst := some 52, op := Go.Op.fieldAddr 40 (Go.Operand.tmp 7) 0, type := 0, pos := "law.go:96", after := #[], guard := none }) hI (by kernel_rfl) (by kernel_rfl) rfl ?_ ?_
    rotate_left
    · intro bA hb W hI KR hKR
      have e7 := hb 7
      simp only [List.getElem?_toArray, List.getElem?_cons_succ, List.getElem?_cons_zero] at e7
      clear hb
      go_simp
      exact hKR _ (Gr.refl _)
    (try simp only [Act.put, List.setIfInBounds_toArray, List.set_cons_zero, List.set_cons_succ])
    refine c_val hX (v := ?_) 1 ({ dst := some 53, op := Go.Op.load 34 (Go.Operand.tmp 52), type := 34, pos := "law.go:96", after := #[{ on := 0, ground := Go.Ground.data }], guard := none }) hI (by kernel_rfl) (by kernel_rfl) rfl ?_ ?_
    rotate_left
    · intro bA hb W hI KR hKR
      have e52 := hb 52
      simp only [List.getElem?_toArray, List.getElem?_cons_succ, List.getElem?_cons_zero] at e52
      clear hb
      refine wp_load_mid 34 (.tmp 52) rfl (w.heap.size + 1) (0) (ev_tmp e52) (SS (stOf I0)).toList _ (range_below hI HY7.out) Try.underlying34 rfl (info34 _) ?_
      exact hKR _ (hX.refl _)
    (try simp only [Act.put, List.setIfInBounds_toArray, List.set_cons_zero, List.set_cons_succ])
    refine c_val hX (v := ?_) 2 ({ dst := some 54, op := Go.Op.fieldAddr 36 (Go.Operand.tmp 8) 0, type := 0, pos := "law.go:96", after := #[], guard := none }) hI (by kernel_rfl) (by kernel_rfl) rfl ?_ ?_
    rotate_left
    · intro bA hb W hI KR hKR
      have e8 := hb 8
      simp only [List.getElem?_toArray, List.getElem?_cons_succ, List.getElem?_cons_zero] at e8
      clear hb
      go_simp
      exact hKR _ (Gr.refl _)
    (try simp only [Act.put, List.setIfInBounds_toArray, List.set_cons_zero, List.set_cons_succ])
    refine c_val hX (v := ?_) 3 ({ dst := some 55, op := Go.Op.load 34 (Go.Operand.tmp 54), type := 34, pos := "law.go:96", after := #[{ on := 2, ground := Go.Ground.data }], guard := none }) hI (by kernel_rfl) (by kernel_rfl) rfl ?_ ?_
    rotate_left
    · intro bA hb W hI KR hKR
      have e54 := hb 54
      simp only [List.getElem?_toArray, List.getElem?_cons_succ, List.getElem?_cons_zero] at e54
      clear hb
      refine wp_load_mid 34 (.tmp 54) rfl (w.heap.size + 1 + 1) (0) (ev_tmp e54) (SS (stOf I0)).toList _ (range_below hI HY8.out) Try.underlying34 rfl (info34 _) ?_
      exact hKR _ (hX.refl _)
    (try simp only [Act.put, List.setIfInBounds_toArray, List.set_cons_zero, List.set_cons_succ])
    refine c_val hX (v := ?_) 4 ({ dst := some 56, op := Go.Op.binOp Go.BinOp.eql 34 (Go.Operand.tmp 53) (Go.Operand.tmp 55) 34, type := 4, pos := "law.go:96", after := #[{ on := 1, ground := Go.Ground.data }, { on := 3, ground := Go.Ground.data }], guard := none }) hI (by kernel_rfl) (by kernel_rfl) rfl ?_ ?_
    rotate_left
    · intro bA hb W hI KR hKR
      have e53 := hb 53
      have e55 := hb 55
      simp only [List.getElem?_toArray, List.getElem?_cons_succ, List.getElem?_cons_zero] at e53 e55
      clear hb
      refine wp_run (exec_eql34s (p := stOf I0) (q := stOf I0) rfl (ev_tmp e53) (ev_tmp e55) rfl) ?_
      exact hKR _ (hX.refl _)
    (try simp only [Act.put, List.setIfInBounds_toArray, List.set_cons_zero, List.set_cons_succ])
    refine c_val hX (v := ?_) 5 ({ dst := some 57, op := Go.Op.move (Go.Operand.tmp 56), type := 4, pos := "law.go:96", after := #[{ on := 4, ground := Go.Ground.data }], guard := none }) hI (by kernel_rfl) (by kernel_rfl) rfl ?_ ?_
    rotate_left
    · intro bA hb W hI KR hKR
      have e56 := hb 56
      simp only [List.getElem?_toArray, List.getElem?_cons_succ, List.getElem?_cons_zero] at e56
      clear hb
      go_simp
      exact hKR _ (Gr.refl _)
    (try simp only [Act.put, List.setIfInBounds_toArray, List.set_cons_zero, List.set_cons_succ])
    refine c_val hX (v := ?_) 6 ({ dst := some 58, op := Go.Op.fieldAddr 40 (Go.Operand.tmp 7) 1, type := 0, pos := "law.go:96", after := #[{ on := 5, ground := Go.Ground.guard }], guard := some (5, true) }) hI (by kernel_rfl) (by kernel_rfl) (wanted_of (j := 5) (d := 57) rfl (by kernel_rfl) rfl) ?_ ?_
    rotate_left
    · intro bA hb W hI KR hKR
      have e7 := hb 7
      simp only [List.getElem?_toArray, List.getElem?_cons_succ, List.getElem?_cons_zero] at e7
      clear hb
      go_simp
      exact hKR _ (Gr.refl _)
    (try simp only [Act.put, List.setIfInBounds_toArray, List.set_cons_zero, List.set_cons_succ])
    refine c_val hX (v := ?_) 7 ({ dst := some 59, op := Go.Op.load 3 (Go.Operand.tmp 58), type := 3, pos := "law.go:96", after := #[{ on := 6, ground := Go.Ground.data }, { on := 5, ground := Go.Ground.guard }], guard := some (5, true) }) hI (by kernel_rfl) (by kernel_rfl) (wanted_of (j := 5) (d := 57) rfl (by kernel_rfl) rfl) ?_ ?_
    rotate_left
    · intro bA hb W hI KR hKR
      have e58 := hb 58
      simp only [List.getElem?_toArray, List.getElem?_cons_succ, List.getElem?_cons_zero] at e58
      clear hb
      have cc := cell_below hI HC7.out
      go_simp
      exact hKR _ (hX.refl _)
    (try simp only [Act.put, List.setIfInBounds_toArray, List.set_cons_zero, List.set_cons_succ])
    refine c_val hX (v := ?_) 8 ({ dst := some 60, op := Go.Op.fieldAddr 36 (Go.Operand.tmp 8) 1, type := 0, pos := "law.go:96", after := #[{ on := 5, ground := Go.Ground.guard }], guard := some (5, true) }) hI (by kernel_rfl) (by kernel_rfl) (wanted_of (j := 5) (d := 57) rfl (by kernel_rfl) rfl) ?_ ?_
    rotate_left
    · intro bA hb W hI KR hKR
      have e8 := hb 8
      simp only [List.getElem?_toArray, List.getElem?_cons_succ, List.getElem?_cons_zero] at e8
      clear hb
      go_simp
      exact hKR _ (Gr.refl _)
    (try simp only [Act.put, List.setIfInBounds_toArray, List.set_cons_zero, List.set_cons_succ])
    refine c_val hX (v := ?_) 9 ({ dst := some 61, op := Go.Op.load 3 (Go.Operand.tmp 60), type := 3, pos := "law.go:96", after := #[{ on := 8, ground := Go.Ground.data }, { on := 5, ground := Go.Ground.guard }], guard := some (5, true) }) hI (by kernel_rfl) (by kernel_rfl) (wanted_of (j := 5) (d := 57) rfl (by kernel_rfl) rfl) ?_ ?_
    rotate_left
    · intro bA hb W hI KR hKR
      have e60 := hb 60
      simp only [List.getElem?_toArray, List.getElem?_cons_succ, List.getElem?_cons_zero] at e60
      clear hb
      have cc := cell_below hI HC8.out
      go_simp
      exact hKR _ (hX.refl _)
    (try simp only [Act.put, List.setIfInBounds_toArray, List.set_cons_zero, List.set_cons_succ])
    refine c_val hX (v := ?_) 10 ({ dst := some 62, op := Go.Op.binOp Go.BinOp.eql 3 (Go.Operand.tmp 59) (Go.Operand.tmp 61) 3, type := 4, pos := "law.go:96", after := #[{ on := 7, ground := Go.Ground.data }, { on := 9, ground := Go.Ground.data }, { on := 5, ground := Go.Ground.guard }], guard := some (5, true) }) hI (by kernel_rfl) (by kernel_rfl) (wanted_of (j := 5) (d := 57) rfl (by kernel_rfl) rfl) ?_ ?_
    rotate_left
    · intro bA hb W hI KR hKR
      have e59 := hb 59
      have e61 := hb 61
      simp only [List.getElem?_toArray, List.getElem?_cons_succ, List.getElem?_cons_zero] at e59 e61
      clear hb
      go_simp
      exact hKR _ (Gr.refl _)
    (try simp only [Act.put, List.setIfInBounds_toArray, List.set_cons_zero, List.set_cons_succ])
    refine c_val hX (v := ?_) 11 ({ dst := some 63, op := Go.Op.pick (Go.Operand.tmp 57) (Go.Operand.tmp 62) (Go.Operand.const (Go.Value.bool false)), type := 4, pos := "law.go:96", after := #[{ on := 5, ground := Go.Ground.data }, { on := 10, ground := Go.Ground.data }], guard := none }) hI (by kernel_rfl) (by kernel_rfl) rfl ?_ ?_
    rotate_left
    · intro bA hb W hI KR hKR
      have e57 := hb 57
      have e62 := hb 62
      simp only [List.getElem?_toArray, List.getElem?_cons_succ, List.getElem?_cons_zero] at e57 e62
      clear hb
      go_simp
      exact hKR _ (Gr.refl _)
    (try simp only [Act.put, List.setIfInBounds_toArray, List.set_cons_zero, List.set_cons_succ])
    refine c_val hX (v := ?_) 12 ({ dst := some 64, op := Go.Op.move (Go.Operand.tmp 63), type := 4, pos := "law.go:96", after := #[{ on := 11, ground := Go.Ground.data }, { on := 5, ground := Go.Ground.chain }], guard := none }) hI (by kernel_rfl) (by kernel_rfl) rfl ?_ ?_
    rotate_left
    · intro bA hb W hI KR hKR
      have e63 := hb 63
      simp only [List.getElem?_toArray, List.getElem?_cons_succ, List.getElem?_cons_zero] at e63
      clear hb
      go_simp
      exact hKR _ (Gr.refl _)
    (try simp only [Act.put, List.setIfInBounds_toArray, List.set_cons_zero, List.set_cons_succ])
    refine c_val hX (v := ?_) 13 ({ dst := some 65, op := Go.Op.move (Go.Operand.tmp 9), type := 4, pos := "law.go:96", after := #[{ on := 12, ground := Go.Ground.guard }], guard := some (12, true) }) hI (by kernel_rfl) (by kernel_rfl) (wanted_of (j := 12) (d := 64) rfl (by kernel_rfl) rfl) ?_ ?_
    rotate_left
    · intro bA hb W hI KR hKR
      have e9 := hb 9
      simp only [List.getElem?_toArray, List.getElem?_cons_succ, List.getElem?_cons_zero] at e9
      clear hb
      go_simp
      exact hKR _ (Gr.refl _)
    (try simp only [Act.put, List.setIfInBounds_toArray, List.set_cons_zero, List.set_cons_succ])
    refine c_val hX (v := ?_) 14 ({ dst := some 66, op := Go.Op.move (Go.Operand.tmp 10), type := 4, pos := "law.go:96", after := #[{ on := 12, ground := Go.Ground.guard }], guard := some (12, true) }) hI (by kernel_rfl) (by kernel_rfl) (wanted_of (j := 12) (d := 64) rfl (by kernel_rfl) rfl) ?_ ?_
    rotate_left
    · intro bA hb W hI KR hKR
      have e10 := hb 10
      simp only [List.getElem?_toArray, List.getElem?_cons_succ, List.getElem?_cons_zero] at e10
      clear hb
      go_simp
      exact hKR _ (Gr.refl _)
    (try simp only [Act.put, List.setIfInBounds_toArray, List.set_cons_zero, List.set_cons_succ])
    refine c_val hX (v := ?_) 15 ({ dst := some 67, op := Go.Op.binOp Go.BinOp.eql 4 (Go.Operand.tmp 65) (Go.Operand.tmp 66) 4, type := 4, pos := "law.go:96", after := #[{ on := 13, ground := Go.Ground.data }, { on := 14, ground := Go.Ground.data }, { on := 12, ground := Go.Ground.guard }], guard := some (12, true) }) hI (by kernel_rfl) (by kernel_rfl) (wanted_of (j := 12) (d := 64) rfl (by kernel_rfl) rfl) ?_ ?_
    rotate_left
    · intro bA hb W hI KR hKR
      have e65 := hb 65
      have e66 := hb 66
      simp only [List.getElem?_toArray, List.getElem?_cons_succ, List.getElem?_cons_zero] at e65 e66
      clear hb
      go_simp
      exact hKR _ (Gr.refl _)
    (try simp only [Act.put, List.setIfInBounds_toArray, List.set_cons_zero, List.set_cons_succ])
    refine c_val hX (v := ?_) 16 ({ dst := some 68, op := Go.Op.pick (Go.Operand.tmp 64) (Go.Operand.tmp 67) (Go.Operand.const (Go.Value.bool false)), type := 4, pos := "law.go:96", after := #[{ on := 12, ground := Go.Ground.data }, { on := 15, ground := Go.Ground.data }], guard := none }) hI (by kernel_rfl) (by kernel_rfl) rfl ?_ ?_
    rotate_left
    · intro bA hb W hI KR hKR
      have e64 := hb 64
      have e67 := hb 67
      simp only [List.getElem?_toArray, List.getElem?_cons_succ, List.getElem?_cons_zero] at e64 e67
      clear hb
      go_simp
      exact hKR _ (Gr.refl _)
    (try simp only [Act.put, List.setIfInBounds_toArray, List.set_cons_zero, List.set_cons_succ])
    refine c_val hX (v := ?_) 17 ({ dst := some 69, op := Go.Op.move (Go.Operand.tmp 68), type := 4, pos := "law.go:96", after := #[{ on := 16, ground := Go.Ground.data }, { on := 12, ground := Go.Ground.chain }], guard := none }) hI (by kernel_rfl) (by kernel_rfl) rfl ?_ ?_
    rotate_left
    · intro bA hb W hI KR hKR
      have e68 := hb 68
      simp only [List.getElem?_toArray, List.getElem?_cons_succ, List.getElem?_cons_zero] at e68
      clear hb
      go_simp
      exact hKR _ (Gr.refl _)
    (try simp only [Act.put, List.setIfInBounds_toArray, List.set_cons_zero, List.set_cons_succ])
    refine c_val hX (v := ?_) 18 ({ dst := some 70, op := Go.Op.move (Go.Operand.tmp 0), type := 25, pos := "law.go:96", after := #[{ on := 17, ground := Go.Ground.guard }], guard := some (17, true) }) hI (by kernel_rfl) (by kernel_rfl) (wanted_of (j := 17) (d := 69) rfl (by kernel_rfl) rfl) ?_ ?_
    rotate_left
    · intro bA hb W hI KR hKR
      have e0 := hb 0
      simp only [List.getElem?_toArray, List.getElem?_cons_succ, List.getElem?_cons_zero] at e0
      clear hb
      go_simp
      exact hKR _ (Gr.refl _)
    (try simp only [Act.put, List.setIfInBounds_toArray, List.set_cons_zero, List.set_cons_succ])
    refine c_val hX (v := ?_) 19 ({ dst := some 71, op := Go.Op.call { callee := Go.Callee.value (Go.Operand.func 16), args := #[Go.Operand.tmp 70], argTypes := #[25] }, type := 3, pos := "law.go:96", after := #[{ on := 18, ground := Go.Ground.data }, { on := 17, ground := Go.Ground.chain }, { on := 17, ground := Go.Ground.guard }], guard := some (17, true) }) hI (by kernel_rfl) (by kernel_rfl) (wanted_of (j := 17) (d := 69) rfl (by kernel_rfl) rfl) ?_ ?_
    rotate_left
    · intro bA hb W hI KR hKR
      have e70 := hb 70
      simp only [List.getElem?_toArray, List.getElem?_cons_succ, List.getElem?_cons_zero] at e70
      clear hb
      go_simp
      go_at_call 16
      refine (q_len _ _ _ _ _ _ (HQ.out.below hI)).mono ?_
      rintro e w1 ⟨rfl, rfl⟩
      rw [HLeq.out]
      exact hKR _ (hX.refl _)
    (try simp only [Act.put, List.setIfInBounds_toArray, List.set_cons_zero, List.set_cons_succ])
    refine c_val hX (v := ?_) 20 ({ dst := some 72, op := Go.Op.move (Go.Operand.tmp 1), type := 29, pos := "law.go:96", after := #[{ on := 17, ground := Go.Ground.guard }], guard := some (17, true) }) hI (by kernel_rfl) (by kernel_rfl) (wanted_of (j := 17) (d := 69) rfl (by kernel_rfl) rfl) ?_ ?_
    rotate_left
    · intro bA hb W hI KR hKR
      have e1 := hb 1
      simp only [List.getElem?_toArray, List.getElem?_cons_succ, List.getElem?_cons_zero] at e1
      clear hb
      go_simp
      exact hKR _ (Gr.refl _)
    (try simp only [Act.put, List.setIfInBounds_toArray, List.set_cons_zero, List.set_cons_succ])
    refine c_val hX (v := ?_) 21 ({ dst := some 73, op := Go.Op.nilCheck (Go.Operand.tmp 72), type := 0, pos := "law.go:96", after := #[{ on := 20, ground := Go.Ground.data }, { on := 17, ground := Go.Ground.guard }], guard := some (17, true) }) hI (by kernel_rfl) (by kernel_rfl) (wanted_of (j := 17) (d := 69) rfl (by kernel_rfl) rfl) ?_ ?_
    rotate_left
    · intro bA hb W hI KR hKR
      have e72 := hb 72
      simp only [List.getElem?_toArray, List.getElem?_cons_succ, List.getElem?_cons_zero] at e72
      clear hb
      go_simp
      exact hKR _ (Gr.refl _)
    (try simp only [Act.put, List.setIfInBounds_toArray, List.set_cons_zero, List.set_cons_succ])
    refine c_val hX (v := ?_) 22 ({ dst := some 74, op := Go.Op.fieldAddr 31 (Go.Operand.tmp 73) 0, type := 0, pos := "law.go:96", after := #[{ on := 21, ground := Go.Ground.data }, { on := 17, ground := Go.Ground.guard }], guard := some (17, true) }) hI (by kernel_rfl) (by kernel_rfl) (wanted_of (j := 17) (d := 69) rfl (by kernel_rfl) rfl) ?_ ?_
    rotate_left
    · intro bA hb W hI KR hKR
      have e73 := hb 73
      simp only [List.getElem?_toArray, List.getElem?_cons_succ, List.getElem?_cons_zero] at e73
      clear hb
      go_simp
      exact hKR _ (Gr.refl _)
    (try simp only [Act.put, List.setIfInBounds_toArray, List.set_cons_zero, List.set_cons_succ])
    refine c_val hX (v := ?_) 23 ({ dst := some 75, op := Go.Op.load 22 (Go.Operand.tmp 74), type := 22, pos := "law.go:96", after := #[{ on := 22, ground := Go.Ground.data }, { on := 17, ground := Go.Ground.guard }], guard := some (17, true) }) hI (by kernel_rfl) (by kernel_rfl) (wanted_of (j := 17) (d := 69) rfl (by kernel_rfl) rfl) ?_ ?_
    rotate_left
    · intro bA hb W hI KR hKR
      have e74 := hb 74
      simp only [List.getElem?_toArray, List.getElem?_cons_succ, List.getElem?_cons_zero] at e74
      clear hb
      have cc := cell_of_heap (RV.blk (HR.out.below hI)) (j := 0) rfl
      go_simp
      exact hKR _ (hX.refl _)
    (try simp only [Act.put, List.setIfInBounds_toArray, List.set_cons_zero, List.set_cons_succ])
    refine c_val hX (v := ?_) 24 ({ dst := some 76, op := Go.Op.call { callee := Go.Callee.builtin Go.Builtin.len, args := #[Go.Operand.tmp 75], argTypes := #[22] }, type := 3, pos := "law.go:96", after := #[{ on := 23, ground := Go.Ground.data }, { on := 17, ground := Go.Ground.guard }], guard := some (17, true) }) hI (by kernel_rfl) (by kernel_rfl) (wanted_of (j := 17) (d := 69) rfl (by kernel_rfl) rfl) ?_ ?_
    rotate_left
    · intro bA hb W hI KR hKR
      have e75 := hb 75
      simp only [List.getElem?_toArray, List.getElem?_cons_succ, List.getElem?_cons_zero] at e75
      clear hb
      go_simp
      exact hKR _ (Gr.refl _)
    (try simp only [Act.put, List.setIfInBounds_toArray, List.set_cons_zero, List.set_cons_succ])
    refine c_val hX (v := ?_) 25 ({ dst := some 77, op := Go.Op.binOp Go.BinOp.eql 3 (Go.Operand.tmp 71) (Go.Operand.tmp 76) 3, type := 4, pos := "law.go:96", after := #[{ on := 19, ground := Go.Ground.data }, { on := 24, ground := Go.Ground.data }, { on := 17, ground := Go.Ground.guard }], guard := some (17, true) }) hI (by kernel_rfl) (by kernel_rfl) (wanted_of (j := 17) (d := 69) rfl (by kernel_rfl) rfl) ?_ ?_
    rotate_left
    · intro bA hb W hI KR hKR
      have e71 := hb 71
      have e76 := hb 76
      simp only [List.getElem?_toArray, List.getElem?_cons_succ, List.getElem?_cons_zero] at e71 e76
      clear hb
      go_simp
      exact hKR _ (Gr.refl _)
    (try simp only [Act.put, List.setIfInBounds_toArray, List.set_cons_zero, List.set_cons_succ])
    refine c_val hX (v := ?_) 26 ({ dst := some 78, op := Go.Op.pick (Go.Operand.tmp 69) (Go.Operand.tmp 77) (Go.Operand.const (Go.Value.bool false)), type := 4, pos := "law.go:96", after := #[{ on := 17, ground := Go.Ground.data }, { on := 25, ground := Go.Ground.data }], guard := none }) hI (by kernel_rfl) (by kernel_rfl) rfl ?_ ?_
    rotate_left
    · intro bA hb W hI KR hKR
      have e69 := hb 69
      have e77 := hb 77
      simp only [List.getElem?_toArray, List.getElem?_cons_succ, List.getElem?_cons_zero] at e69 e77
      clear hb
      go_simp
      exact hKR _ (Gr.refl _)
    (try simp only [Act.put, List.setIfInBounds_toArray, List.set_cons_zero, List.set_cons_succ])
    refine c_val hX (v := ?_) 27 ({ dst := some 6, op := Go.Op.assign (Go.Operand.tmp 78), type := 4, pos := "law.go:96", after := #[{ on := 26, ground := Go.Ground.data }, { on := 19, ground := Go.Ground.chain }, { on := 0, ground := Go.Ground.phase }, { on := 1, ground := Go.Ground.phase }, { on := 2, ground := Go.Ground.phase }, { on := 3, ground := Go.Ground.phase }, { on := 4, ground := Go.Ground.phase }, { on := 5, ground := Go.Ground.phase }, { on := 6, ground := Go.Ground.phase }, { on := 7, ground := Go.Ground.phase }, { on := 8, ground := Go.Ground.phase }, { on := 9, ground := Go.Ground.phase }, { on := 10, ground := Go.Ground.phase }, { on := 11, ground := Go.Ground.phase }, { on := 12, ground := Go.Ground.phase }, { on := 13, ground := Go.Ground.phase }, { on := 14, ground := Go.Ground.phase }, { on := 15, ground := Go.Ground.phase }, { on := 16, ground := Go.Ground.phase }, { on := 17, ground := Go.Ground.phase }, { on := 18, ground := Go.Ground.phase }, { on := 19, ground := Go.Ground.phase }, { on := 20, ground := Go.Ground.phase }, { on := 21, ground := Go.Ground.phase }, { on := 22, ground := Go.Ground.phase }, { on := 23, ground := Go.Ground.phase }, { on := 24, ground := Go.Ground.phase }, { on := 25, ground := Go.Ground.phase }, { on := 26, ground := Go.Ground.phase }], guard := none }) hI (by kernel_rfl) (by kernel_rfl) rfl ?_ ?_
    rotate_left
    · intro bA hb W hI KR hKR
      have e78 := hb 78
      simp only [List.getElem?_toArray, List.getElem?_cons_succ, List.getElem?_cons_zero] at e78
      clear hb
      go_simp
      exact hKR _ (Gr.refl _)
    (try simp only [Act.put, List.setIfInBounds_toArray, List.set_cons_zero, List.set_cons_succ])
    refine c_done (by kernel_rfl) ?_
    intro w9 hW
    refine hQ' _ _ ?_
    have hI := hX.keep hI hW
    clear hQ' hX hW
    have HQ9 := Lib.hid (HQ.out.below hI)
    have HR9 := Lib.hid (HR.out.below hI)
    have HP9 := Lib.hid (HP1.out.up hI HBS.out)
    go_wp2
    go_ret
    exact ⟨rfl, _, _, _, _, HQ9.out, HR9.out, HRel1.out, HLen.out, HP9.out⟩
  · have HS0 := Lib.hid (show S3 w.heap.size k x W3 from ⟨H5.out, H7.out, H8.out⟩)
    have hsz3 : w.heap.size + 1 + 1 < W3.heap.size := heap_lt H8.out
    by_cases k1 : k = 1
    · subst k1
      by_cases hxs : xs = []
      · subst hxs
        obtain rfl : ys = [] := List.eq_nil_of_length_eq_zero HRel.out.len.symm
        go_wp2_with (first
          | (go_at_call 12; rw [← hW3]; refine (q_pop0 base gq b v _ HQ.out).mono ?_; rintro e w1 ⟨rfl, h1⟩; have HS := Lib.hid (HS0.out.up h1); replace HQ := Lib.hid (HQ.out.below h1); replace HR := Lib.hid (HR.out.below h1); replace HP1 := Lib.hid (HP1.out.up h1 HBS.out); have hz1 := h1.size; clear h1)
          | (refine wpList_store_whole rfl 40 (.tmp 7) (.tmp 45) rfl (w.heap.size + 1) (IS I0) (IS I0) 40 rfl rfl HS.out.2.1 rfl (info40 _) (by kernel_rfl) ?_; intro w2 hnew hsz hfar hbel; have hr := (show Rw (w.heap.size + 1) w1 w2 from ⟨hsz, hfar, hbel⟩); have HB7 := Lib.hid hnew; have HB8 := Lib.hid ((hfar (w.heap.size + 1 + 1) (by omega)).trans HS.out.2.2); replace HQ := Lib.hid (HQ.out.rw hr (by omega) (by omega) (fun e => by have := HOV.out _ e; omega)); replace HR := Lib.hid (HR.out.rw hr (by omega) (fun e => by have := HOU.out _ e; omega)); replace HP1 := Lib.hid (HP1.out.rw hr (by omega) HBS.out); clear hnew hfar hbel hr)
          | (go_at_call 30; refine (rpop0 base g u _ HR.out).mono ?_; rintro e w3 ⟨rfl, h1⟩; replace HB7 := Lib.hid ((h1.block _ (heap_lt HB7.out)).trans HB7.out); replace HB8 := Lib.hid ((h1.block _ (heap_lt HB8.out)).trans HB8.out); replace HQ := Lib.hid (HQ.out.below h1); replace HR := Lib.hid (HR.out.below h1); replace HP1 := Lib.hid (HP1.out.up h1 HBS.out); clear h1)
          | (refine wpList_store_whole rfl 36 (.tmp 8) (.tmp 50) rfl (w.heap.size + 1 + 1) (IS I0) (IS I0) 36 rfl rfl HB8.out rfl (info36 _) (by kernel_rfl) ?_; intro w4 hnew hsz hfar hbel; have hr := (show Rw (w.heap.size + 1 + 1) w3 w4 from ⟨hsz, hfar, hbel⟩); replace HB8 := Lib.hid hnew; replace HB7 := Lib.hid ((hfar (w.heap.size + 1) (by omega)).trans HB7.out); replace HQ := Lib.hid (HQ.out.rw hr (by omega) (by omega) (fun e => by have := HOV.out _ e; omega)); replace HR := Lib.hid (HR.out.rw hr (by omega) (fun e => by have := HOU.out _ e; omega)); replace HP1 := Lib.hid (HP1.out.rw hr (by omega) HBS.out); clear hnew hfar hbel hr))
        have HRel1 := HRel
        have HLen := Lib.hid (show ([] : List It).length ≤ ([] : List It).length + 1 from by simp)
        have HY7 := Lib.hid (range_st (range_of_heap HB7.out 0 (IS I0).toList (fun j v hv => by simpa using hv)))
        have HY8 := Lib.hid (range_st (range_of_heap HB8.out 0 (IS I0).toList (fun j v hv => by simpa using hv)))
        have HC7 := Lib.hid (show w4.cell? ⟨w.heap.size + 1, 2, none⟩ = some (.int .i64 (It.g I0)) from cell_of_heap HB7.out (j := 2) rfl)
        have HC8 := Lib.hid (show w4.cell? ⟨w.heap.size + 1 + 1, 2, none⟩ = some (.int .i64 (It.g I0)) from cell_of_heap HB8.out (j := 2) rfl)
        obtain ⟨A9, c9, e9⟩ := own_slice HR.out.row
        subst e9
        have HLeq := Lib.hid HRel1.out.len
        refine run_region (fn := Try.f11) (id := 14) (n := 28) [] (Bw w4) Gr (by kernel_rfl) (by kernel_rfl) (by kernel_rfl) (by kernel_rfl) Gr.refl (fun _ _ _ => Gr.trans) (fun _ _ h k => bel h k) ?_
        intro Q' hQ' hX
        have hI : (Bw w4) _ := below_drew1 (Below.refl _ _)
        (try simp only [Act.put, List.setIfInBounds_toArray, List.set_cons_zero, List.set_cons_succ])
        refine c_val hX (v := ?_) 0 ({ dst := some 52, op := Go.Op.fieldAddr 40 (Go.Operand.tmp 7) 0, type := 0, pos := "law.go:96", after := #[], guard := none }) hI (by kernel_rfl) (by kernel_rfl) rfl ?_ ?_
        rotate_left
        · intro bA hb W hI KR hKR
          have e7 := hb 7
          simp only [List.getElem?_toArray, List.getElem?_cons_succ, List.getElem?_cons_zero] at e7
          clear hb
          go_simp
          exact hKR _ (Gr.refl _)
        (try simp only [Act.put, List.setIfInBounds_toArray, List.set_cons_zero, List.set_cons_succ])
        refine c_val hX (v := ?_) 1 ({ dst := some 53, op := Go.Op.load 34 (Go.Operand.tmp 52), type := 34, pos := "law.go:96", after := #[{ on := 0, ground := Go.Ground.data }], guard := none }) hI (by kernel_rfl) (by kernel_rfl) rfl ?_ ?_
        rotate_left
        · intro bA hb W hI KR hKR
          have e52 := hb 52
          simp only [List.getElem?_toArray, List.getElem?_cons_succ, List.getElem?_cons_zero] at e52
          clear hb
          refine wp_load_mid 34 (.tmp 52) rfl (w.heap.size + 1) (0) (ev_tmp e52) (SS (stOf I0)).toList _ (range_below hI HY7.out) Try.underlying34 rfl (info34 _) ?_
          exact hKR _ (hX.refl _)
        (try simp only [Act.put, List.setIfInBounds_toArray, List.set_cons_zero, List.set_cons_succ])
        refine c_val hX (v := ?_) 2 ({ dst := some 54, op := Go.Op.fieldAddr 36 (Go.Operand.tmp 8) 0, type := 0, pos := "law.go:96", after := #[], guard := none }) hI (by kernel_rfl) (by kernel_rfl) rfl ?_ ?_
        rotate_left
        · intro bA hb W hI KR hKR
          have e8 := hb 8
          simp only [List.getElem?_toArray, List.getElem?_cons_succ, List.getElem?_cons_zero] at e8
          clear hb
          go_simp
          exact hKR _ (Gr.refl _)
        (try simp only [Act.put, List.setIfInBounds_toArray, List.set_cons_zero, List.set_cons_succ])
        refine c_val hX (v := ?_) 3 ({ dst := some 55, op := Go.Op.load 34 (Go.Operand.tmp 54), type := 34, pos := "law.go:96", after := #[{ on := 2, ground := Go.Ground.data }], guard := none }) hI (by kernel_rfl) (by kernel_rfl) rfl ?_ ?_
        rotate_left
        · intro bA hb W hI KR hKR
          have e54 := hb 54
          simp only [List.getElem?_toArray, List.getElem?_cons_succ, List.getElem?_cons_zero] at e54
          clear hb
          refine wp_load_mid 34 (.tmp 54) rfl (w.heap.size + 1 + 1) (0) (ev_tmp e54) (SS (stOf I0)).toList _ (range_below hI HY8.out) Try.underlying34 rfl (info34 _) ?_
          exact hKR _ (hX.refl _)
        (try simp only [Act.put, List.setIfInBounds_toArray, List.set_cons_zero, List.set_cons_succ])
        refine c_val hX (v := ?_) 4 ({ dst := some 56, op := Go.Op.binOp Go.BinOp.eql 34 (Go.Operand.tmp 53) (Go.Operand.tmp 55) 34, type := 4, pos := "law.go:96", after := #[{ on := 1, ground := Go.Ground.data }, { on := 3, ground := Go.Ground.data }], guard := none }) hI (by kernel_rfl) (by kernel_rfl) rfl ?_ ?_
        rotate_left
        · intro bA hb W hI KR hKR
          have e53 := hb 53
          have e55 := hb 55
          simp only [List.getElem?_toArray, List.getElem?_cons_succ, List.getElem?_cons_zero] at e53 e55
          clear hb
          refine wp_run (exec_eql34s (p := stOf I0) (q := stOf I0) rfl (ev_tmp e53) (ev_tmp e55) rfl) ?_
          exact hKR _ (hX.refl _)
        (try simp only [Act.put, List.setIfInBounds_toArray, List.set_cons_zero, List.set_cons_succ])
        refine c_val hX (v := ?_) 5 ({ dst := some 57, op := Go.Op.move (Go.Operand.tmp 56), type := 4, pos := "law.go:96", after := #[{ on := 4, ground := Go.Ground.data }], guard := none }) hI (by kernel_rfl) (by kernel_rfl) rfl ?_ ?_
        rotate_left
        · intro bA hb W hI KR hKR
          have e56 := hb 56
          simp only [List.getElem?_toArray, List.getElem?_cons_succ, List.getElem?_cons_zero] at e56
          clear hb
          go_simp
          exact hKR _ (Gr.refl _)
        (try simp only [Act.put, List.setIfInBounds_toArray, List.set_cons_zero, List.set_cons_succ])
        refine c_val hX (v := ?_) 6 ({ dst := some 58, op := Go.Op.fieldAddr 40 (Go.Operand.tmp 7) 1, type := 0, pos := "law.go:96", after := #[{ on := 5, ground := Go.Ground.guard }], guard := some (5, true) }) hI (by kernel_rfl) (by kernel_rfl) (wanted_of (j := 5) (d := 57) rfl (by kernel_rfl) rfl) ?_ ?_
        rotate_left
        · intro bA hb W hI KR hKR
          have e7 := hb 7
          simp only [List.getElem?_toArray, List.getElem?_cons_succ, List.getElem?_cons_zero] at e7
          clear hb
          go_simp
          exact hKR _ (Gr.refl _)
        (try simp only [Act.put, List.setIfInBounds_toArray, List.set_cons_zero, List.set_cons_succ])
        refine c_val hX (v := ?_) 7 ({ dst := some 59, op := Go.Op.load 3 (Go.Operand.tmp 58), type := 3, pos := "law.go:96", after := #[{ on := 6, ground := Go.Ground.data }, { on := 5, ground := Go.Ground.guard }], guard := some (5, true) }) hI (by kernel_rfl) (by kernel_rfl) (wanted_of (j := 5) (d := 57) rfl (by kernel_rfl) rfl) ?_ ?_
        rotate_left
        · intro bA hb W hI KR hKR
          have e58 := hb 58
          simp only [List.getElem?_toArray, List.getElem?_cons_succ, List.getElem?_cons_zero] at e58
          clear hb
          have cc := cell_below hI HC7.out
          go_simp
          exact hKR _ (hX.refl _)
        (try simp only [Act.put, List.setIfInBounds_toArray, List.set_cons_zero, List.set_cons_succ])
        refine c_val hX (v := ?_) 8 ({ dst := some 60, op := Go.Op.fieldAddr 36 (Go.Operand.tmp 8) 1, type := 0, pos := "law.go:96", after := #[{ on := 5, ground := Go.Ground.guard }], guard := some (5, true) }) hI (by kernel_rfl) (by kernel_rfl) (wanted_of (j := 5) (d := 57) rfl (by kernel_rfl) rfl) ?_ ?_
        rotate_left
        · intro bA hb W hI KR hKR
          have e8 := hb 8
          simp only [List.getElem?_toArray, List.getElem?_cons_succ, List.getElem?_cons_zero] at e8
          clear hb
          go_simp
          exact hKR _ (Gr.refl _)
        (try simp only [Act.put, List.setIfInBounds_toArray, List.set_cons_zero, List.set_cons_succ])
        refine c_val hX (v := ?_) 9 ({ dst := some 61, op := Go.Op.load 3 (Go.Operand.tmp 60), type := 3, pos := "law.go:96", after := #[{ on := 8, ground := Go.Ground.data }, { on := 5, ground := Go.Ground.guard }], guard := some (5, true) }) hI (by kernel_rfl) (by kernel_rfl) (wanted_of (j := 5) (d := 57) rfl (by kernel_rfl) rfl) ?_ ?_
        rotate_left
        · intro bA hb W hI KR hKR
          have e60 := hb 60
          simp only [List.getElem?_toArray, List.getElem?_cons_succ, List.getElem?_cons_zero] at e60
          clear hb
          have cc := cell_below hI HC8.out
          go_simp
          exact hKR _ (hX.refl _)
        (try simp only [Act.put, List.setIfInBounds_toArray, List.set_cons_zero, List.set_cons_succ])
        refine c_val hX (v := ?_) 10 ({ dst := some 62, op := Go.Op.binOp Go.BinOp.eql 3 (Go.Operand.tmp 59) (Go.Operand.tmp 61) 3, type := 4, pos := "law.go:96", after := #[{ on := 7, ground := Go.Ground.data }, { on := 9, ground := Go.Ground.data }, { on := 5, ground := Go.Ground.guard }], guard := some (5, true) }) hI (by kernel_rfl) (by kernel_rfl) (wanted_of (j := 5) (d := 57) rfl (by kernel_rfl) rfl) ?_ ?_
        rotate_left
        · intro bA hb W hI KR hKR
          have e59 := hb 59
          have e61 := hb 61
          simp only [List.getElem?_toArray, List.getElem?_cons_succ, List.getElem?_cons_zero] at e59 e61
          clear hb
          go_simp
          exact hKR _ (Gr.refl _)
        (try simp only [Act.put, List.setIfInBounds_toArray, List.set_cons_zero, List.set_cons_succ])
        refine c_val hX (v := ?_) 11 ({ dst := some 63, op := Go.Op.pick (Go.Operand.tmp 57) (Go.Operand.tmp 62) (Go.Operand.const (Go.Value.bool false)), type := 4, pos := "law.go:96", after := #[{ on := 5, ground := Go.Ground.data }, { on := 10, ground := Go.Ground.data }], guard := none }) hI (by kernel_rfl) (by kernel_rfl) rfl ?_ ?_
        rotate_left
        · intro bA hb W hI KR hKR
          have e57 := hb 57
          have e62 := hb 62
          simp only [List.getElem?_toArray, List.getElem?_cons_succ, List.getElem?_cons_zero] at e57 e62
          clear hb
          go_simp
          exact hKR _ (Gr.refl _)
        (try simp only [Act.put, List.setIfInBounds_toArray, List.set_cons_zero, List.set_cons_succ])
        refine c_val hX (v := ?_) 12 ({ dst := some 64, op := Go.Op.move (Go.Operand.tmp 63), type := 4, pos := "law.go:96", after := #[{ on := 11, ground := Go.Ground.data }, { on := 5, ground := Go.Ground.chain }], guard := none }) hI (by kernel_rfl) (by kernel_rfl) rfl ?_ ?_
        rotate_left
        · intro bA hb W hI KR hKR
          have e63 := hb 63
          simp only [List.getElem?_toArray, List.getElem?_cons_succ, List.getElem?_cons_zero] at e63
          clear hb
          go_simp
          exact hKR _ (Gr.refl _)
        (try simp only [Act.put, List.setIfInBounds_toArray, List.set_cons_zero, List.set_cons_succ])
        refine c_val hX (v := ?_) 13 ({ dst := some 65, op := Go.Op.move (Go.Operand.tmp 9), type := 4, pos := "law.go:96", after := #[{ on := 12, ground := Go.Ground.guard }], guard := some (12, true) }) hI (by kernel_rfl) (by kernel_rfl) (wanted_of (j := 12) (d := 64) rfl (by kernel_rfl) rfl) ?_ ?_
        rotate_left
        · intro bA hb W hI KR hKR
          have e9 := hb 9
          simp only [List.getElem?_toArray, List.getElem?_cons_succ, List.getElem?_cons_zero] at e9
          clear hb
          go_simp
          exact hKR _ (Gr.refl _)
        (try simp only [Act.put, List.setIfInBounds_toArray, List.set_cons_zero, List.set_cons_succ])
        refine c_val hX (v := ?_) 14 ({ dst := some 66, op := Go.Op.move (Go.Operand.tmp 10), type := 4, pos := "law.go:96", after := #[{ on := 12, ground := Go.Ground.guard }], guard := some (12, true) }) hI (by kernel_rfl) (by kernel_rfl) (wanted_of (j := 12) (d := 64) rfl (by kernel_rfl) rfl) ?_ ?_
        rotate_left
        · intro bA hb W hI KR hKR
          have e10 := hb 10
          simp only [List.getElem?_toArray, List.getElem?_cons_succ, List.getElem?_cons_zero] at e10
          clear hb
          go_simp
          exact hKR _ (Gr.refl _)
        (try simp only [Act.put, List.setIfInBounds_toArray, List.set_cons_zero, List.set_cons_succ])
        refine c_val hX (v := ?_) 15 ({ dst := some 67, op := Go.Op.binOp Go.BinOp.eql 4 (Go.Operand.tmp 65) (Go.Operand.tmp 66) 4, type := 4, pos := "law.go:96", after := #[{ on := 13, ground := Go.Ground.data }, { on := 14, ground := Go.Ground.data }, { on := 12, ground := Go.Ground.guard }], guard := some (12, true) }) hI (by kernel_rfl) (by kernel_rfl) (wanted_of (j := 12) (d := 64) rfl (by kernel_rfl) rfl) ?_ ?_
        rotate_left
        · intro bA hb W hI KR hKR
          have e65 := hb 65
          have e66 := hb 66
          simp only [List.getElem?_toArray, List.getElem?_cons_succ, List.getElem?_cons_zero] at e65 e66
          clear hb
          go_simp
          exact hKR _ (Gr.refl _)
        (try simp only [Act.put, List.setIfInBounds_toArray, List.set_cons_zero, List.set_cons_succ])
        refine c_val hX (v := ?_) 16 ({ dst := some 68, op := Go.Op.pick (Go.Operand.tmp 64) (Go.Operand.tmp 67) (Go.Operand.const (Go.Value.bool false)), type := 4, pos := "law.go:96", after := #[{ on := 12, ground := Go.Ground.data }, { on := 15, ground := Go.Ground.data }], guard := none }) hI (by kernel_rfl) (by kernel_rfl) rfl ?_ ?_
        rotate_left
        · intro bA hb W hI KR hKR
          have e64 := hb 64
          have e67 := hb 67
          simp only [List.getElem?_toArray, List.getElem?_cons_succ, List.getElem?_cons_zero] at e64 e67
          clear hb
          go_simp
          exact hKR _ (Gr.refl _)
        (try simp only [Act.put, List.setIfInBounds_toArray, List.set_cons_zero, List.set_cons_succ])
        refine c_val hX (v := ?_) 17 ({ dst := some 69, op := Go.Op.move (Go.Operand.tmp 68), type := 4, pos := "law.go:96", after := #[{ on := 16, ground := Go.Ground.data }, { on := 12, ground := Go.Ground.chain }], guard := none }) hI (by kernel_rfl) (by kernel_rfl) rfl ?_ ?_
        rotate_left
        · intro bA hb W hI KR hKR
          have e68 := hb 68
          simp only [List.getElem?_toArray, List.getElem?_cons_succ, List.getElem?_cons_zero] at e68
          clear hb
          go_simp
          exact hKR _ (Gr.refl _)
        (try simp only [Act.put, List.setIfInBounds_toArray, List.set_cons_zero, List.set_cons_succ])
        refine c_val hX (v := ?_) 18 ({ dst := some 70, op := Go.Op.move (Go.Operand.tmp 0), type := 25, pos := "law.go:96", after := #[{ on := 17, ground := Go.Ground.guard }], guard := some (17, true) }) hI (by kernel_rfl) (by kernel_rfl) (wanted_of (j := 17) (d := 69) rfl (by kernel_rfl) rfl) ?_ ?_
        rotate_left
        · intro bA hb W hI KR hKR
          have e0 := hb 0
          simp only [List.getElem?_toArray, List.getElem?_cons_succ, List.getElem?_cons_zero] at e0
          clear hb
          go_simp
          exact hKR _ (Gr.refl _)
        (try simp only [Act.put, List.setIfInBounds_toArray, List.set_cons_zero, List.set_cons_succ])
        refine c_val hX (v := ?_) 19 ({ dst := some 71, op := Go.Op.call { callee := Go.Callee.value (Go.Operand.func 16), args := #[Go.Operand.tmp 70], argTypes := #[25] }, type := 3, pos := "law.go:96", after := #[{ on := 18, ground := Go.Ground.data }, { on := 17, ground := Go.Ground.chain }, { on := 17, ground := Go.Ground.guard }], guard := some (17, true) }) hI (by kernel_rfl) (by kernel_rfl) (wanted_of (j := 17) (d := 69) rfl (by kernel_rfl) rfl) ?_ ?_
        rotate_left
        · intro bA hb W hI KR hKR
          have e70 := hb 70
          simp only [List.getElem?_toArray, List.getElem?_cons_succ, List.getElem?_cons_zero] at e70
          clear hb
          go_simp
          go_at_call 16
          refine (q_len _ _ _ _ _ _ (HQ.out.below hI)).mono ?_
          rintro e w1 ⟨rfl, rfl⟩
          rw [HLeq.out]
          exact hKR _ (hX.refl _)
        (try simp only [Act.put, List.setIfInBounds_toArray, List.set_cons_zero, List.set_cons_succ])
        refine c_val hX (v := ?_) 20 ({ dst := some 72, op := Go.Op.move (Go.Operand.tmp 1), type := 29, pos := "law.go:96", after := #[{ on := 17, ground := Go.Ground.guard }], guard := some (17, true) }) hI (by kernel_rfl) (by kernel_rfl) (wanted_of (j := 17) (d := 69) rfl (by kernel_rfl) rfl) ?_ ?_
        rotate_left
        · intro bA hb W hI KR hKR
          have e1 := hb 1
          simp only [List.getElem?_toArray, List.getElem?_cons_succ, List.getElem?_cons_zero] at e1
          clear hb
          go_simp
          exact hKR _ (Gr.refl _)
        (try simp only [Act.put, List.setIfInBounds_toArray, List.set_cons_zero, List.set_cons_succ])
        refine c_val hX (v := ?_) 21 ({ dst := some 73, op := Go.Op.nilCheck (Go.Operand.tmp 72), type := 0, pos := "law.go:96", after := #[{ on := 20, ground := Go.Ground.data }, { on := 17, ground := Go.Ground.guard }], guard := some (17, true) }) hI (by kernel_rfl) (by kernel_rfl) (wanted_of (j := 17) (d := 69) rfl (by kernel_rfl) rfl) ?_ ?_
        rotate_left
        · intro bA hb W hI KR hKR
          have e72 := hb 72
          simp only [List.getElem?_toArray, List.getElem?_cons_succ, List.getElem?_cons_zero] at e72
          clear hb
          go_simp
          exact hKR _ (Gr.refl _)
        (try simp only [Act.put, List.setIfInBounds_toArray, List.set_cons_zero, List.set_cons_succ])
        refine c_val hX (v := ?_) 22 ({ dst := some 74, op := Go.Op.fieldAddr 31 (Go.Operand.tmp 73) 0, type := 0, pos := "law.go:96", after := #[{ on := 21, ground := Go.Ground.data }, { on := 17, ground := Go.Ground.guard }], guard := some (17, true) }) hI (by kernel_rfl) (by kernel_rfl) (wanted_of (j := 17) (d := 69) rfl (by kernel_rfl) rfl) ?_ ?_
        rotate_left
        · intro bA hb W hI KR hKR
          have e73 := hb 73
          simp only [List.getElem?_toArray, List.getElem?_cons_succ, List.getElem?_cons_zero] at e73
          clear hb
          go_simp
          exact hKR _ (Gr.refl _)
        (try simp only [Act.put, List.setIfInBounds_toArray, List.set_cons_zero, List.set_cons_succ])
        refine c_val hX (v := ?_) 23 ({ dst := some 75, op := Go.Op.load 22 (Go.Operand.tmp 74), type := 22, pos := "law.go:96", after := #[{ on := 22, ground := Go.Ground.data }, { on := 17, ground := Go.Ground.guard }], guard := some (17, true) }) hI (by kernel_rfl) (by kernel_rfl) (wanted_of (j := 17) (d := 69) rfl (by kernel_rfl) rfl) ?_ ?_
        rotate_left
        · intro bA hb W hI KR hKR
          have e74 := hb 74
          simp only [List.getElem?_toArray, List.getElem?_cons_succ, List.getElem?_cons_zero] at e74
          clear hb
          have cc := cell_of_heap (RV.blk (HR.out.below hI)) (j := 0) rfl
          go_simp
          exact hKR _ (hX.refl _)
        (try simp only [Act.put, List.setIfInBounds_toArray, List.set_cons_zero, List.set_cons_succ])
        refine c_val hX (v := ?_) 24 ({ dst := some 76, op := Go.Op.call { callee := Go.Callee.builtin Go.Builtin.len, args := #[Go.Operand.tmp 75], argTypes := #[22] }, type := 3, pos := "law.go:96", after := #[{ on := 23, ground := Go.Ground.data }, { on := 17, ground := Go.Ground.guard }], guard := some (17, true) }) hI (by kernel_rfl) (by kernel_rfl) (wanted_of (j := 17) (d := 69) rfl (by kernel_rfl) rfl) ?_ ?_
        rotate_left
        · intro bA hb W hI KR hKR
          have e75 := hb 75
          simp only [List.getElem?_toArray, List.getElem?_cons_succ, List.getElem?_cons_zero] at e75
          clear hb
          go_simp
          exact hKR _ (Gr.refl _)
        (try simp only [Act.put, List.setIfInBounds_toArray, List.set_cons_zero, List.set_cons_succ])
        refine c_val hX (v := ?_) 25 ({ dst := some 77, op := Go.Op.binOp Go.BinOp.eql 3 (Go.Operand.tmp 71) (Go.Operand.tmp 76) 3, type := 4, pos := "law.go:96", after := #[{ on := 19, ground := Go.Ground.data }, { on := 24, ground := Go.Ground.data }, { on := 17, ground := Go.Ground.guard }], guard := some (17, true) }) hI (by kernel_rfl) (by kernel_rfl) (wanted_of (j := 17) (d := 69) rfl (by kernel_rfl) rfl) ?_ ?_
        rotate_left
        · intro bA hb W hI KR hKR
          have e71 := hb 71
          have e76 := hb 76
          simp only [List.getElem?_toArray, List.getElem?_cons_succ, List.getElem?_cons_zero] at e71 e76
          clear hb
          go_simp
          exact hKR _ (Gr.refl _)
        (try simp only [Act.put, List.setIfInBounds_toArray, List.set_cons_zero, List.set_cons_succ])
        refine c_val hX (v := ?_) 26 ({ dst := some 78, op := Go.Op.pick (Go.Operand.tmp 69) (Go.Operand.tmp 77) (Go.Operand.const (Go.Value.bool false)), type := 4, pos := "law.go:96", after := #[{ on := 17, ground := Go.Ground.data }, { on := 25, ground := Go.Ground.data }], guard := none }) hI (by kernel_rfl) (by kernel_rfl) rfl ?_ ?_
        rotate_left
        · intro bA hb W hI KR hKR
          have e69 := hb 69
          have e77 := hb 77
          simp only [List.getElem?_toArray, List.getElem?_cons_succ, List.getElem?_cons_zero] at e69 e77
          clear hb
          go_simp
          exact hKR _ (Gr.refl _)
        (try simp only [Act.put, List.setIfInBounds_toArray, List.set_cons_zero, List.set_cons_succ])
        refine c_val hX (v := ?_) 27 ({ dst := some 6, op := Go.Op.assign (Go.Operand.tmp 78), type := 4, pos := "law.go:96", after := #[{ on := 26, ground := Go.Ground.data }, { on := 19, ground := Go.Ground.chain }, { on := 0, ground := Go.Ground.phase }, { on := 1, ground := Go.Ground.phase }, { on := 2, ground := Go.Ground.phase }, { on := 3, ground := Go.Ground.phase }, { on := 4, ground := Go.Ground.phase }, { on := 5, ground := Go.Ground.phase }, { on := 6, ground := Go.Ground.phase }, { on := 7, ground := Go.Ground.phase }, { on := 8, ground := Go.Ground.phase }, { on := 9, ground := Go.Ground.phase }, { on := 10, ground := Go.Ground.phase }, { on := 11, ground := Go.Ground.phase }, { on := 12, ground := Go.Ground.phase }, { on := 13, ground := Go.Ground.phase }, { on := 14, ground := Go.Ground.phase }, { on := 15, ground := Go.Ground.phase }, { on := 16, ground := Go.Ground.phase }, { on := 17, ground := Go.Ground.phase }, { on := 18, ground := Go.Ground.phase }, { on := 19, ground := Go.Ground.phase }, { on := 20, ground := Go.Ground.phase }, { on := 21, ground := Go.Ground.phase }, { on := 22, ground := Go.Ground.phase }, { on := 23, ground := Go.Ground.phase }, { on := 24, ground := Go.Ground.phase }, { on := 25, ground := Go.Ground.phase }, { on := 26, ground := Go.Ground.phase }], guard := none }) hI (by kernel_rfl) (by kernel_rfl) rfl ?_ ?_
        rotate_left
        · intro bA hb W hI KR hKR
          have e78 := hb 78
          simp only [List.getElem?_toArray, List.getElem?_cons_succ, List.getElem?_cons_zero] at e78
          clear hb
          go_simp
          exact hKR _ (Gr.refl _)
        (try simp only [Act.put, List.setIfInBounds_toArray, List.set_cons_zero, List.set_cons_succ])
        refine c_done (by kernel_rfl) ?_
        intro w9 hW
        refine hQ' _ _ ?_
        have hI := hX.keep hI hW
        clear hQ' hX hW
        have HQ9 := Lib.hid (HQ.out.below hI)
        have HR9 := Lib.hid (HR.out.below hI)
        have HP9 := Lib.hid (HP1.out.up hI HBS.out)
        go_wp2
        go_ret
        exact ⟨rfl, _, _, _, _, HQ9.out, HR9.out, HRel1.out, HLen.out, HP9.out⟩
      · have h0 : 0 < xs.length := List.length_pos_iff.2 hxs
        have HNE := Lib.hid (show ys ≠ [] from fun e => by subst e; exact hxs (List.eq_nil_of_length_eq_zero HRel.out.len))
        obtain ⟨y0, hy0⟩ : ∃ y0, at_ xs 0 = y0 := ⟨_, rfl⟩
        have HY0 := Lib.hid hy0
        have H0 := Lib.hid h0
        clear h0 hy0 hxs
        go_wp2_with (first
          | (go_at_call 12; rw [← hW3]; refine (q_pop base gq b v xs _ HQ.out (Nat.le_trans HBS.out HB3.out.size) H0.out (by have := HL.out; omega)).mono ?_; rintro e w1 ⟨rfl, v1, hq1, hp1⟩; rw [HY0.out]; have HS := Lib.hid (HS0.out.pq hp1 hgb HOV.out); have HOV1 := Lib.hid (show ∀ j, v1.ownBlock = some j → j < w.heap.size ∨ w.heap.size + 1 + 1 < j from fun j e => by rcases hp1.own j e with q | q; exact .inl (HOV.out _ q); exact .inr (by omega)); replace HR := Lib.hid (HR.out.over HQ.out hp1); replace HQ := Lib.hid hq1; replace HP1 := Lib.hid (HP1.out.q hp1); have hz1 := hp1.size; clear hq1 hp1)
          | (refine wpList_store_whole rfl 40 (.tmp 7) (.tmp 45) rfl (w.heap.size + 1) (IS y0) (IS I0) 40 rfl rfl HS.out.2.1 rfl (info40 _) (by kernel_rfl) ?_; intro w2 hnew hsz hfar hbel; have hr := (show Rw (w.heap.size + 1) w1 w2 from ⟨hsz, hfar, hbel⟩); have HB7 := Lib.hid hnew; have HB8 := Lib.hid ((hfar (w.heap.size + 1 + 1) (by omega)).trans HS.out.2.2); replace HQ := Lib.hid (HQ.out.rw hr (by omega) (by omega) (fun e => by have := HOV1.out _ e; omega)); replace HR := Lib.hid (HR.out.rw hr (by omega) (fun e => by have := HOU.out _ e; omega)); replace HP1 := Lib.hid (HP1.out.rw hr (by omega) HBS.out); clear hnew hfar hbel hr)
          | (go_at_call 30; refine (rpop base g u ys _ HR.out (Nat.le_trans HBS.out HP1.out.size) HNE.out (by have := HL.out; have := HRel.out.len; omega)).mono ?_; rintro e w3 ⟨m, hm, rfl, u1, hr1, hp2⟩; rw [HRel.out.root hm, HY0.out]; have HRel1 := Lib.hid (HRel.out.pop hm); have HOU1 := Lib.hid (show ∀ j, u1.ownBlock = some j → j < w.heap.size ∨ w.heap.size + 1 + 1 < j from fun j e => by rcases hp2.own j e with q | q; exact .inl (HOU.out _ q); exact .inr (by omega)); replace HB7 := Lib.hid (hp2.stay' HB7.out (by omega) (fun e => by have := HOU.out _ e; omega)); replace HB8 := Lib.hid (hp2.stay' HB8.out (by omega) (fun e => by have := HOU.out _ e; omega)); replace HQ := Lib.hid (HQ.out.over HR.out hp2); replace HR := Lib.hid hr1; replace HP1 := Lib.hid (HP1.out.r hp2); clear hr1 hp2 hm)
          | (refine wpList_store_whole rfl 36 (.tmp 8) (.tmp 50) rfl (w.heap.size + 1 + 1) (IS y0) (IS I0) 36 rfl rfl HB8.out rfl (info36 _) (by kernel_rfl) ?_; intro w4 hnew hsz hfar hbel; have hr := (show Rw (w.heap.size + 1 + 1) w3 w4 from ⟨hsz, hfar, hbel⟩); replace HB8 := Lib.hid hnew; replace HB7 := Lib.hid ((hfar (w.heap.size + 1) (by omega)).trans HB7.out); replace HQ := Lib.hid (HQ.out.rw hr (by omega) (by omega) (fun e => by have := HOV1.out _ e; omega)); replace HR := Lib.hid (HR.out.rw hr (by omega) (fun e => by have := HOU1.out _ e; omega)); replace HP1 := Lib.hid (HP1.out.rw hr (by omega) HBS.out); clear hnew hfar hbel hr))
        have HLen := Lib.hid (show (popL xs).length ≤ xs.length + 1 from by rw [popL_len]; omega)
        have HY7 := Lib.hid (range_st (range_of_heap HB7.out 0 (IS y0).toList (fun j v hv => by simpa using hv)))
        have HY8 := Lib.hid (range_st (range_of_heap HB8.out 0 (IS y0).toList (fun j v hv => by simpa using hv)))
        have HC7 := Lib.hid (show w4.cell? ⟨w.heap.size + 1, 2, none⟩ = some (.int .i64 (It.g y0)) from cell_of_heap HB7.out (j := 2) rfl)
        have HC8 := Lib.hid (show w4.cell? ⟨w.heap.size + 1 + 1, 2, none⟩ = some (.int .i64 (It.g y0)) from cell_of_heap HB8.out (j := 2) rfl)
        obtain ⟨A9, c9, e9⟩ := own_slice HR.out.row
        subst e9
        have HLeq := Lib.hid HRel1.out.len
        refine run_region (fn := Try.f11) (id := 14) (n := 28) [] (Bw w4) Gr (by kernel_rfl) (by kernel_rfl) (by kernel_rfl) (by kernel_rfl) Gr.refl (fun _ _ _ => Gr.trans) (fun _ _ h k => bel h k) ?_
        intro Q' hQ' hX
        have hI : (Bw w4) _ := below_drew1 (Below.refl _ _)
        (try simp only [Act.put, List.setIfInBounds_toArray, List.set_cons_zero, List.set_cons_succ])
        refine c_val hX (v := ?_) 0 ({ dst := some 52, op := Go.Op.fieldAddr 40 (Go.Operand.tmp 7) 0, type := 0, pos := "law.go:96", after := #[], guard := none }) hI (by kernel_rfl) (by kernel_rfl) rfl ?_ ?_
        rotate_left
        · intro bA hb W hI KR hKR
          have e7 := hb 7
          simp only [List.getElem?_toArray, List.getElem?_cons_succ, List.getElem?_cons_zero] at e7
          clear hb
          go_simp
          exact hKR _ (Gr.refl _)
        (try simp only [Act.put, List.setIfInBounds_toArray, List.set_cons_zero, List.set_cons_succ])
        refine c_val hX (v := ?_) 1 ({ dst := some 53, op := Go.Op.load 34 (Go.Operand.tmp 52), type := 34, pos := "law.go:96", after := #[{ on := 0, ground := Go.Ground.data }], guard := none }) hI (by kernel_rfl) (by kernel_rfl) rfl ?_ ?_
        rotate_left
        · intro bA hb W hI KR hKR
          have e52 := hb 52
          simp only [List.getElem?_toArray, List.getElem?_cons_succ, List.getElem?_cons_zero] at e52
          clear hb
          refine wp_load_mid 34 (.tmp 52) rfl (w.heap.size + 1) (0) (ev_tmp e52) (SS (stOf y0)).toList _ (range_below hI HY7.out) Try.underlying34 rfl (info34 _) ?_
          exact hKR _ (hX.refl _)
        (try simp only [Act.put, List.setIfInBounds_toArray, List.set_cons_zero, List.set_cons_succ])
        refine c_val hX (v := ?_) 2 ({ dst := some 54, op := Go.Op.fieldAddr 36 (Go.Operand.tmp 8) 0, type := 0, pos := "law.go:96", after := #[], guard := none }) hI (by kernel_rfl) (by kernel_rfl) rfl ?_ ?_
        rotate_left
        · intro bA hb W hI KR hKR
          have e8 := hb 8
          simp only [List.getElem?_toArray, List.getElem?_cons_succ, List.getElem?_cons_zero] at e8
          clear hb
          go_simp
          exact hKR _ (Gr.refl _)
        (try simp only [Act.put, List.setIfInBounds_toArray, List.set_cons_zero, List.set_cons_succ])
        refine c_val hX (v := ?_) 3 ({ dst := some 55, op := Go.Op.load 34 (Go.Operand.tmp 54), type := 34, pos := "law.go:96", after := #[{ on := 2, ground := Go.Ground.data }], guard := none }) hI (by kernel_rfl) (by kernel_rfl) rfl ?_ ?_
        rotate_left
        · intro bA hb W hI KR hKR
          have e54 := hb 54
          simp only [List.getElem?_toArray, List.getElem?_cons_succ, List.getElem?_cons_zero] at e54
          clear hb
          refine wp_load_mid 34 (.tmp 54) rfl (w.heap.size + 1 + 1) (0) (ev_tmp e54) (SS (stOf y0)).toList _ (range_below hI HY8.out) Try.underlying34 rfl (info34 _) ?_
          exact hKR _ (hX.refl _)
        (try simp only [Act.put, List.setIfInBounds_toArray, List.set_cons_zero, List.set_cons_succ])
        refine c_val hX (v := ?_) 4 ({ dst := some 56, op := Go.Op.binOp Go.BinOp.eql 34 (Go.Operand.tmp 53) (Go.Operand.tmp 55) 34, type := 4, pos := "law.go:96", after := #[{ on := 1, ground := Go.Ground.data }, { on := 3, ground := Go.Ground.data }], guard := none }) hI (by kernel_rfl) (by kernel_rfl) rfl ?_ ?_
        rotate_left
        · intro bA hb W hI KR hKR
          have e53 := hb 53
          have e55 := hb 55
          simp only [List.getElem?_toArray, List.getElem?_cons_succ, List.getElem?_cons_zero] at e53 e55
          clear hb
          refine wp_run (exec_eql34s (p := stOf y0) (q := stOf y0) rfl (ev_tmp e53) (ev_tmp e55) rfl) ?_
          exact hKR _ (hX.refl _)
        (try simp only [Act.put, List.setIfInBounds_toArray, List.set_cons_zero, List.set_cons_succ])
        refine c_val hX (v := ?_) 5 ({ dst := some 57, op := Go.Op.move (Go.Operand.tmp 56), type := 4, pos := "law.go:96", after := #[{ on := 4, ground := Go.Ground.data }], guard := none }) hI (by kernel_rfl) (by kernel_rfl) rfl ?_ ?_
        rotate_left
        · intro bA hb W hI KR hKR
          have e56 := hb 56
          simp only [List.getElem?_toArray, List.getElem?_cons_succ, List.getElem?_cons_zero] at e56
          clear hb
          go_simp
          exact hKR _ (Gr.refl _)
        (try simp only [Act.put, List.setIfInBounds_toArray, List.set_cons_zero, List.set_cons_succ])
        refine c_val hX (v := ?_) 6 ({ dst := some 58, op := Go.Op.fieldAddr 40 (Go.Operand.tmp 7) 1, type := 0, pos := "law.go:96", after := #[{ on := 5, ground := Go.Ground.guard }], guard := some (5, true) }) hI (by kernel_rfl) (by kernel_rfl) (wanted_of (j := 5) (d := 57) rfl (by kernel_rfl) rfl) ?_ ?_
        rotate_left
        · intro bA hb W hI KR hKR
          have e7 := hb 7
          simp only [List.getElem?_toArray, List.getElem?_cons_succ, List.getElem?_cons_zero] at e7
          clear hb
          go_simp
          exact hKR _ (Gr.refl _)
        (try simp only [Act.put, List.setIfInBounds_toArray, List.set_cons_zero, List.set_cons_succ])
        refine c_val hX (v := ?_) 7 ({ dst := some 59, op := Go.Op.load 3 (Go.Operand.tmp 58), type := 3, pos := "law.go:96", after := #[{ on := 6, ground := Go.Ground.data }, { on := 5, ground := Go.Ground.guard }], guard := some (5, true) }) hI (by kernel_rfl) (by kernel_rfl) (wanted_of (j := 5) (d := 57) rfl (by kernel_rfl) rfl) ?_ ?_
        rotate_left
        · intro bA hb W hI KR hKR
          have e58 := hb 58
          simp only [List.getElem?_toArray, List.getElem?_cons_succ, List.getElem?_cons_zero] at e58
          clear hb
          have cc := cell_below hI HC7.out
          go_simp
          exact hKR _ (hX.refl _)
        (try simp only [Act.put, List.setIfInBounds_toArray, List.set_cons_zero, List.set_cons_succ])
        refine c_val hX (v := ?_) 8 ({ dst := some 60, op := Go.Op.fieldAddr 36 (Go.Operand.tmp 8) 1, type := 0, pos := "law.go:96", after := #[{ on := 5, ground := Go.Ground.guard }], guard := some (5, true) }) hI (by kernel_rfl) (by kernel_rfl) (wanted_of (j := 5) (d := 57) rfl (by kernel_rfl) rfl) ?_ ?_
        rotate_left
        · intro bA hb W hI KR hKR
          have e8 := hb 8
          simp only [List.getElem?_toArray, List.getElem?_cons_succ, List.getElem?_cons_zero] at e8
          clear hb
          go_simp
          exact hKR _ (Gr.refl _)
        (try simp only [Act.put, List.setIfInBounds_toArray, List.set_cons_zero, List.set_cons_succ])
        refine c_val hX (v := ?_) 9 ({ dst := some 61, op := Go.Op.load 3 (Go.Operand.tmp 60), type := 3, pos := "law.go:96", after := #[{ on := 8, ground := Go.Ground.data }, { on := 5, ground := Go.Ground.guard }], guard := some (5, true) }) hI (by kernel_rfl) (by kernel_rfl) (wanted_of (j := 5) (d := 57) rfl (by kernel_rfl) rfl) ?_ ?_
        rotate_left
        · intro bA hb W hI KR hKR
          have e60 := hb 60
          simp only [List.getElem?_toArray, List.getElem?_cons_succ, List.getElem?_cons_zero] at e60
          clear hb
          have cc := cell_below hI HC8.out
          go_simp
          exact hKR _ (hX.refl _)
        (try simp only [Act.put, List.setIfInBounds_toArray, List.set_cons_zero, List.set_cons_succ])
        refine c_val hX (v := ?_) 10 ({ dst := some 62, op := Go.Op.binOp Go.BinOp.eql 3 (Go.Operand.tmp 59) (Go.Operand.tmp 61) 3, type := 4, pos := "law.go:96", after := #[{ on := 7, ground := Go.Ground.data }, { on := 9, ground := Go.Ground.data }, { on := 5, ground := Go.Ground.guard }], guard := some (5, true) }) hI (by kernel_rfl) (by kernel_rfl) (wanted_of (j := 5) (d := 57) rfl (by kernel_rfl) rfl) ?_ ?_
        rotate_left
        · intro bA hb W hI KR hKR
          have e59 := hb 59
          have e61 := hb 61
          simp only [List.getElem?_toArray, List.getElem?_cons_succ, List.getElem?_cons_zero] at e59 e61
          clear hb
          go_simp
          exact hKR _ (Gr.refl _)
        (try simp only [Act.put, List.setIfInBounds_toArray, List.set_cons_zero, List.set_cons_succ])
        refine c_val hX (v := ?_) 11 ({ dst := some 63, op := Go.Op.pick (Go.Operand.tmp 57) (Go.Operand.tmp 62) (Go.Operand.const (Go.Value.bool false)), type := 4, pos := "law.go:96", after := #[{ on := 5, ground := Go.Ground.data }, { on := 10, ground := Go.Ground.data }], guard := none }) hI (by kernel_rfl) (by kernel_rfl) rfl ?_ ?_
        rotate_left
        · intro bA hb W hI KR hKR
          have e57 := hb 57
          have e62 := hb 62
          simp only [List.getElem?_toArray, List.getElem?_cons_succ, List.getElem?_cons_zero] at e57 e62
          clear hb
          go_simp
          exact hKR _ (Gr.refl _)
        (try simp only [Act.put, List.setIfInBounds_toArray, List.set_cons_zero, List.set_cons_succ])
        refine c_val hX (v := ?_) 12 ({ dst := some 64, op := Go.Op.move (Go.Operand.tmp 63), type := 4, pos := "law.go:96", after := #[{ on := 11, ground := Go.Ground.data }, { on := 5, ground := Go.Ground.chain }], guard := none }) hI (by kernel_rfl) (by kernel_rfl) rfl ?_ ?_
        rotate_left
        · intro bA hb W hI KR hKR
          have e63 := hb 63
          simp only [List.getElem?_toArray, List.getElem?_cons_succ, List.getElem?_cons_zero] at e63
          clear hb
          go_simp
          exact hKR _ (Gr.refl _)
        (try simp only [Act.put, List.setIfInBounds_toArray, List.set_cons_zero, List.set_cons_succ])
        refine c_val hX (v := ?_) 13 ({ dst := some 65, op := Go.Op.move (Go.Operand.tmp 9), type := 4, pos := "law.go:96", after := #[{ on := 12, ground := Go.Ground.guard }], guard := some (12, true) }) hI (by kernel_rfl) (by kernel_rfl) (wanted_of (j := 12) (d := 64) rfl (by kernel_rfl) rfl) ?_ ?_
        rotate_left
        · intro bA hb W hI KR hKR
          have e9 := hb 9
          simp only [List.getElem?_toArray, List.getElem?_cons_succ, List.getElem?_cons_zero] at e9
          clear hb
          go_simp
          exact hKR _ (Gr.refl _)
        (try simp only [Act.put, List.setIfInBounds_toArray, List.set_cons_zero, List.set_cons_succ])
        refine c_val hX (v := ?_) 14 ({ dst := some 66, op := Go.Op.move (Go.Operand.tmp 10), type := 4, pos := "law.go:96", after := #[{ on := 12, ground := Go.Ground.guard }], guard := some (12, true) }) hI (by kernel_rfl) (by kernel_rfl) (wanted_of (j := 12) (d := 64) rfl (by kernel_rfl) rfl) ?_ ?_
        rotate_left
        · intro bA hb W hI KR hKR
          have e10 := hb 10
          simp only [List.getElem?_toArray, List.getElem?_cons_succ, List.getElem?_cons_zero] at e10
          clear hb
          go_simp
          exact hKR _ (Gr.refl _)
        (try simp only [Act.put, List.setIfInBounds_toArray, List.set_cons_zero, List.set_cons_succ])
        refine c_val hX (v := ?_) 15 ({ dst := some 67, op := Go.Op.binOp Go.BinOp.eql 4 (Go.Operand.tmp 65) (Go.Operand.tmp 66) 4, type := 4, pos := "law.go:96", after := #[{ on := 13, ground := Go.Ground.data }, { on := 14, ground := Go.Ground.data }, { on := 12, ground := Go.Ground.guard }], guard := some (12, true) }) hI (by kernel_rfl) (by kernel_rfl) (wanted_of (j := 12) (d := 64) rfl (by kernel_rfl) rfl) ?_ ?_
        rotate_left
        · intro bA hb W hI KR hKR
          have e65 := hb 65
          have e66 := hb 66
          simp only [List.getElem?_toArray, List.getElem?_cons_succ, List.getElem?_cons_zero] at e65 e66
          clear hb
          go_simp
          exact hKR _ (Gr.refl _)
        (try simp only [Act.put, List.setIfInBounds_toArray, List.set_cons_zero, List.set_cons_succ])
        refine c_val hX (v := ?_) 16 ({ dst := some 68, op := Go.Op.pick (Go.Operand.tmp 64) (Go.Operand.tmp 67) (Go.Operand.const (Go.Value.bool false)), type := 4, pos := "law.go:96", after := #[{ on := 12, ground := Go.Ground.data }, { on := 15, ground := Go.Ground.data }], guard := none }) hI (by kernel_rfl) (by kernel_rfl) rfl ?_ ?_
        rotate_left
        · intro bA hb W hI KR hKR
          have e64 := hb 64
          have e67 := hb 67
          simp only [List.getElem?_toArray, List.getElem?_cons_succ, List.getElem?_cons_zero] at e64 e67
          clear hb
          go_simp
          exact hKR _ (Gr.refl _)
        (try simp only [Act.put, List.setIfInBounds_toArray, List.set_cons_zero, List.set_cons_succ])
        refine c_val hX (v := ?_) 17 ({ dst := some 69, op := Go.Op.move (Go.Operand.tmp 68), type := 4, pos := "law.go:96", after := #[{ on := 16, ground := Go.Ground.data }, { on := 12, ground := Go.Ground.chain }], guard := none }) hI (by kernel_rfl) (by kernel_rfl) rfl ?_ ?_
        rotate_left
        · intro bA hb W hI KR hKR
          have e68 := hb 68
          simp only [List.getElem?_toArray, List.getElem?_cons_succ, List.getElem?_cons_zero] at e68
          clear hb
          go_simp
          exact hKR _ (Gr.refl _)
        (try simp only [Act.put, List.setIfInBounds_toArray, List.set_cons_zero, List.set_cons_succ])
        refine c_val hX (v := ?_) 18 ({ dst := some 70, op := Go.Op.move (Go.Operand.tmp 0), type := 25, pos := "law.go:96", after := #[{ on := 17, ground := Go.Ground.guard }], guard := some (17, true) }) hI (by kernel_rfl) (by kernel_rfl) (wanted_of (j := 17) (d := 69) rfl (by kernel_rfl) rfl) ?_ ?_
        rotate_left
        · intro bA hb W hI KR hKR
          have e0 := hb 0
          simp only [List.getElem?_toArray, List.getElem?_cons_succ, List.getElem?_cons_zero] at e0
          clear hb
          go_simp
          exact hKR _ (Gr.refl _)
        (try simp only [Act.put, List.setIfInBounds_toArray, List.set_cons_zero, List.set_cons_succ])
        refine c_val hX (v := ?_) 19 ({ dst := some 71, op := Go.Op.call { callee := Go.Callee.value (Go.Operand.func 16), args := #[Go.Operand.tmp 70], argTypes := #[25] }, type := 3, pos := "law.go:96", after := #[{ on := 18, ground := Go.Ground.data }, { on := 17, ground := Go.Ground.chain }, { on := 17, ground := Go.Ground.guard }], guard := some (17, true) }) hI (by kernel_rfl) (by kernel_rfl) (wanted_of (j := 17) (d := 69) rfl (by kernel_rfl) rfl) ?_ ?_
        rotate_left
        · intro bA hb W hI KR hKR
          have e70 := hb 70
          simp only [List.getElem?_toArray, List.getElem?_cons_succ, List.getElem?_cons_zero] at e70
          clear hb
          go_simp
          go_at_call 16
          refine (q_len _ _ _ _ _ _ (HQ.out.below hI)).mono ?_
          rintro e w1 ⟨rfl, rfl⟩
          rw [HLeq.out]
          exact hKR _ (hX.refl _)
        (try simp only [Act.put, List.setIfInBounds_toArray, List.set_cons_zero, List.set_cons_succ])
        refine c_val hX (v := ?_) 20 ({ dst := some 72, op := Go.Op.move (Go.Operand.tmp 1), type := 29, pos := "law.go:96", after := #[{ on := 17, ground := Go.Ground.guard }], guard := some (17, true) }) hI (by kernel_rfl) (by kernel_rfl) (wanted_of (j := 17) (d := 69) rfl (by kernel_rfl) rfl) ?_ ?_
        rotate_left
        · intro bA hb W hI KR hKR
          have e1 := hb 1
          simp only [List.getElem?_toArray, List.getElem?_cons_succ, List.getElem?_cons_zero] at e1
          clear hb
          go_simp
          exact hKR _ (Gr.refl _)
        (try simp only [Act.put, List.setIfInBounds_toArray, List.set_cons_zero, List.set_cons_succ])
        refine c_val hX (v := ?_) 21 ({ dst := some 73, op := Go.Op.nilCheck (Go.Operand.tmp 72), type := 0, pos := "law.go:96", after := #[{ on := 20, ground := Go.Ground.data }, { on := 17, ground := Go.Ground.guard }], guard := some (17, true) }) hI (by kernel_rfl) (by kernel_rfl) (wanted_of (j := 17) (d := 69) rfl (by kernel_rfl) rfl) ?_ ?_
        rotate_left
        · intro bA hb W hI KR hKR
          have e72 := hb 72
          simp only [List.getElem?_toArray, List.getElem?_cons_succ, List.getElem?_cons_zero] at e72
          clear hb
          go_simp
          exact hKR _ (Gr.refl _)
        (try simp only [Act.put, List.setIfInBounds_toArray, List.set_cons_zero, List.set_cons_succ])
        refine c_val hX (v := ?_) 22 ({ dst := some 74, op := Go.Op.fieldAddr 31 (Go.Operand.tmp 73) 0, type := 0, pos := "law.go:96", after := #[{ on := 21, ground := Go.Ground.data }, { on := 17, ground := Go.Ground.guard }], guard := some (17, true) }) hI (by kernel_rfl) (by kernel_rfl) (wanted_of (j := 17) (d := 69) rfl (by kernel_rfl) rfl) ?_ ?_
        rotate_left
        · intro bA hb W hI KR hKR
          have e73 := hb 73
          simp only [List.getElem?_toArray, List.getElem?_cons_succ, List.getElem?_cons_zero] at e73
          clear hb
          go_simp
          exact hKR _ (Gr.refl _)
        (try simp only [Act.put, List.setIfInBounds_toArray, List.set_cons_zero, List.set_cons_succ])
        refine c_val hX (v := ?_) 23 ({ dst := some 75, op := Go.Op.load 22 (Go.Operand.tmp 74), type := 22, pos := "law.go:96", after := #[{ on := 22, ground := Go.Ground.data }, { on := 17, ground := Go.Ground.guard }], guard := some (17, true) }) hI (by kernel_rfl) (by kernel_rfl) (wanted_of (j := 17) (d := 69) rfl (by kernel_rfl) rfl) ?_ ?_
        rotate_left
        · intro bA hb W hI KR hKR
          have e74 := hb 74
          simp only [List.getElem?_toArray, List.getElem?_cons_succ, List.getElem?_cons_zero] at e74
          clear hb
          have cc := cell_of_heap (RV.blk (HR.out.below hI)) (j := 0) rfl
          go_simp
          exact hKR _ (hX.refl _)
        (try simp only [Act.put, List.setIfInBounds_toArray, List.set_cons_zero, List.set_cons_succ])
        refine c_val hX (v := ?_) 24 ({ dst := some 76, op := Go.Op.call { callee := Go.Callee.builtin Go.Builtin.len, args := #[Go.Operand.tmp 75], argTypes := #[22] }, type := 3, pos := "law.go:96", after := #[{ on := 23, ground := Go.Ground.data }, { on := 17, ground := Go.Ground.guard }], guard := some (17, true) }) hI (by kernel_rfl) (by kernel_rfl) (wanted_of (j := 17) (d := 69) rfl (by kernel_rfl) rfl) ?_ ?_
        rotate_left
        · intro bA hb W hI KR hKR
          have e75 := hb 75
          simp only [List.getElem?_toArray, List.getElem?_cons_succ, List.getElem?_cons_zero] at e75
          clear hb
          go_simp
          exact hKR _ (Gr.refl _)
        (try simp only [Act.put, List.setIfInBounds_toArray, List.set_cons_zero, List.set_cons_succ])
        refine c_val hX (v := ?_) 25 ({ dst := some 77, op := Go.Op.binOp Go.BinOp.eql 3 (Go.Operand.tmp 71) (Go.Operand.tmp 76) 3, type := 4, pos := "law.go:96", after := #[{ on := 19, ground := Go.Ground.data }, { on := 24, ground := Go.Ground.data }, { on := 17, ground := Go.Ground.guard }], guard := some (17, true) }) hI (by kernel_rfl) (by kernel_rfl) (wanted_of (j := 17) (d := 69) rfl (by kernel_rfl) rfl) ?_ ?_
        rotate_left
        · intro bA hb W hI KR hKR
          have e71 := hb 71
          have e76 := hb 76
          simp only [List.getElem?_toArray, List.getElem?_cons_succ, List.getElem?_cons_zero] at e71 e76
          clear hb
          go_simp
          exact hKR _ (Gr.refl _)
        (try simp only [Act.put, List.setIfInBounds_toArray, List.set_cons_zero, List.set_cons_succ])
        refine c_val hX (v := ?_) 26 ({ dst := some 78, op := Go.Op.pick (Go.Operand.tmp 69) (Go.Operand.tmp 77) (Go.Operand.const (Go.Value.bool false)), type := 4, pos := "law.go:96", after := #[{ on := 17, ground := Go.Ground.data }, { on := 25, ground := Go.Ground.data }], guard := none }) hI (by kernel_rfl) (by kernel_rfl) rfl ?_ ?_
        rotate_left
        · intro bA hb W hI KR hKR
          have e69 := hb 69
          have e77 := hb 77
          simp only [List.getElem?_toArray, List.getElem?_cons_succ, List.getElem?_cons_zero] at e69 e77
          clear hb
          go_simp
          exact hKR _ (Gr.refl _)
        (try simp only [Act.put, List.setIfInBounds_toArray, List.set_cons_zero, List.set_cons_succ])
        refine c_val hX (v := ?_) 27 ({ dst := some 6, op := Go.Op.assign (Go.Operand.tmp 78), type := 4, pos := "law.go:96", after := #[{ on := 26, ground := Go.Ground.data }, { on := 19, ground := Go.Ground.chain }, { on := 0, ground := Go.Ground.phase }, { on := 1, ground := Go.Ground.phase }, { on := 2, ground := Go.Ground.phase }, { on := 3, ground := Go.Ground.phase }, { on := 4, ground := Go.Ground.phase }, { on := 5, ground := Go.Ground.phase }, { on := 6, ground := Go.Ground.phase }, { on := 7, ground := Go.Ground.phase }, { on := 8, ground := Go.Ground.phase }, { on := 9, ground := Go.Ground.phase }, { on := 10, ground := Go.Ground.phase }, { on := 11, ground := Go.Ground.phase }, { on := 12, ground := Go.Ground.phase }, { on := 13, ground := Go.Ground.phase }, { on := 14, ground := Go.Ground.phase }, { on := 15, ground := Go.Ground.phase }, { on := 16, ground := Go.Ground.phase }, { on := 17, ground := Go.Ground.phase }, { on := 18, ground := Go.Ground.phase }, { on := 19, ground := Go.Ground.phase }, { on := 20, ground := Go.Ground.phase }, { on := 21, ground := Go.Ground.phase }, { on := 22, ground := Go.Ground.phase }, { on := 23, ground := Go.Ground.phase }, { on := 24, ground := Go.Ground.phase }, { on := 25, ground := Go.Ground.phase }, { on := 26, ground := Go.Ground.phase }], guard := none }) hI (by kernel_rfl) (by kernel_rfl) rfl ?_ ?_
        rotate_left
        · intro bA hb W hI KR hKR
          have e78 := hb 78
          simp only [List.getElem?_toArray, List.getElem?_cons_succ, List.getElem?_cons_zero] at e78
          clear hb
          go_simp
          exact hKR _ (Gr.refl _)
        (try simp only [Act.put, List.setIfInBounds_toArray, List.set_cons_zero, List.set_cons_succ])
        refine c_done (by kernel_rfl) ?_
        intro w9 hW
        refine hQ' _ _ ?_
        have hI := hX.keep hI hW
        clear hQ' hX hW
        have HQ9 := Lib.hid (HQ.out.below hI)
        have HR9 := Lib.hid (HR.out.below hI)
        have HP9 := Lib.hid (HP1.out.up hI HBS.out)
        go_wp2
        go_ret
        exact ⟨rfl, _, _, _, _, HQ9.out, HR9.out, HRel1.out, HLen.out, HP9.out⟩
    · by_cases hxs : xs = []
      · subst hxs
        obtain rfl : ys = [] := List.eq_nil_of_length_eq_zero HRel.out.len.symm
        have HOV1 := Lib.hid (show ∀ j, v.ownBlock = some j → j < w.heap.size ∨ w.heap.size + 1 + 1 < j from fun j e => .inl (HOV.out _ e))
        have HOU1 := Lib.hid (show ∀ j, u.ownBlock = some j → j < w.heap.size ∨ w.heap.size + 1 + 1 < j from fun j e => .inl (HOU.out _ e))
        go_wp2_with (first
          | (go_at_call 13; rw [← hW3]; refine (q_peek0 base gq b v _ HQ.out).mono ?_; rintro e w1 ⟨rfl, h1⟩; have HS := Lib.hid (HS0.out.up h1); replace HQ := Lib.hid (HQ.out.below h1); replace HR := Lib.hid (HR.out.below h1); replace HP1 := Lib.hid (HP1.out.up h1 HBS.out); have hz1 := h1.size; clear h1)
          | (refine wpList_store_whole rfl 40 (.tmp 7) (.tmp 16) rfl (w.heap.size + 1) (IS I0) (IS I0) 40 rfl rfl HS.out.2.1 rfl (info40 _) (by kernel_rfl) ?_; intro w2 hnew hsz hfar hbel; have hr := (show Rw (w.heap.size + 1) w1 w2 from ⟨hsz, hfar, hbel⟩); have HB7 := Lib.hid hnew; have HB8 := Lib.hid ((hfar (w.heap.size + 1 + 1) (by omega)).trans HS.out.2.2); replace HQ := Lib.hid (HQ.out.rw hr (by omega) (by omega) (fun e => by have := HOV1.out _ e; omega)); replace HR := Lib.hid (HR.out.rw hr (by omega) (fun e => by have := HOU.out _ e; omega)); replace HP1 := Lib.hid (HP1.out.rw hr (by omega) HBS.out); clear hnew hfar hbel hr)
          | (go_at_call 31; refine (rpeek0 base g u _ HR.out).mono ?_; rintro e w3 ⟨rfl, h1⟩; replace HB7 := Lib.hid ((h1.block _ (heap_lt HB7.out)).trans HB7.out); replace HB8 := Lib.hid ((h1.block _ (heap_lt HB8.out)).trans HB8.out); replace HQ := Lib.hid (HQ.out.below h1); replace HR := Lib.hid (HR.out.below h1); replace HP1 := Lib.hid (HP1.out.up h1 HBS.out); clear h1)
          | (refine wpList_store_whole rfl 36 (.tmp 8) (.tmp 21) rfl (w.heap.size + 1 + 1) (IS I0) (IS I0) 36 rfl rfl HB8.out rfl (info36 _) (by kernel_rfl) ?_; intro w4 hnew hsz hfar hbel; have hr := (show Rw (w.heap.size + 1 + 1) w3 w4 from ⟨hsz, hfar, hbel⟩); replace HB8 := Lib.hid hnew; replace HB7 := Lib.hid ((hfar (w.heap.size + 1) (by omega)).trans HB7.out); replace HQ := Lib.hid (HQ.out.rw hr (by omega) (by omega) (fun e => by have := HOV1.out _ e; omega)); replace HR := Lib.hid (HR.out.rw hr (by omega) (fun e => by have := HOU1.out _ e; omega)); replace HP1 := Lib.hid (HP1.out.rw hr (by omega) HBS.out); clear hnew hfar hbel hr))
        have HRel1 := HRel
        have HLen := Lib.hid (show ([] : List It).length ≤ ([] : List It).length + 1 from by simp)
        have HY7 := Lib.hid (range_st (range_of_heap HB7.out 0 (IS I0).toList (fun j v hv => by simpa using hv)))
        have HY8 := Lib.hid (range_st (range_of_heap HB8.out 0 (IS I0).toList (fun j v hv => by simpa using hv)))
        have HC7 := Lib.hid (show w4.cell? ⟨w.heap.size + 1, 2, none⟩ = some (.int .i64 (It.g I0)) from cell_of_heap HB7.out (j := 2) rfl)
        have HC8 := Lib.hid (show w4.cell? ⟨w.heap.size + 1 + 1, 2, none⟩ = some (.int .i64 (It.g I0)) from cell_of_heap HB8.out (j := 2) rfl)
        obtain ⟨A9, c9, e9⟩ := own_slice HR.out.row
        subst e9
        have HLeq := Lib.hid HRel1.out.len
        refine run_region (fn := Try.f11) (id := 14) (n := 28) [] (Bw w4) Gr (by kernel_rfl) (by kernel_rfl) (by kernel_rfl) (by kernel_rfl) Gr.refl (fun _ _ _ => Gr.trans) (fun _ _ h k => bel h k) ?_
        intro Q' hQ' hX
        have hI : (Bw w4) _ := below_drew1 (Below.refl _ _)
        (try simp only [Act.put, List.setIfInBounds_toArray, List.set_cons_zero, List.set_cons_succ])
        refine c_val hX (v := ?_) 0 ({ dst := some 52, op := Go.Op.fieldAddr 40 (Go.Operand.tmp 7) 0, type := 0, pos := "law.go:96", after := #[], guard := none }) hI (by kernel_rfl) (by kernel_rfl) rfl ?_ ?_
        rotate_left
        · intro bA hb W hI KR hKR
          have e7 := hb 7
          simp only [List.getElem?_toArray, List.getElem?_cons_succ, List.getElem?_cons_zero] at e7
          clear hb
          go_simp
          exact hKR _ (Gr.refl _)
        (try simp only [Act.put, List.setIfInBounds_toArray, List.set_cons_zero, List.set_cons_succ])
        refine c_val hX (v := ?_) 1 ({ dst := some 53, op := Go.Op.load 34 (Go.Operand.tmp 52), type := 34, pos := "law.go:96", after := #[{ on := 0, ground := Go.Ground.data }], guard := none }) hI (by kernel_rfl) (by kernel_rfl) rfl ?_ ?_
        rotate_left
        · intro bA hb W hI KR hKR
          have e52 := hb 52
          simp only [List.getElem?_toArray, List.getElem?_cons_succ, List.getElem?_cons_zero] at e52
          clear hb
          refine wp_load_mid 34 (.tmp 52) rfl (w.heap.size + 1) (0) (ev_tmp e52) (SS (stOf I0)).toList _ (range_below hI HY7.out) Try.underlying34 rfl (info34 _) ?_
          exact hKR _ (hX.refl _)
        (try simp only [Act.put, List.setIfInBounds_toArray, List.set_cons_zero, List.set_cons_succ])
        refine c_val hX (v := ?_) 2 ({ dst := some 54, op := Go.Op.fieldAddr 36 (Go.Operand.tmp 8) 0, type := 0, pos := "law.go:96", after := #[], guard := none }) hI (by kernel_rfl) (by kernel_rfl) rfl ?_ ?_
        rotate_left
        · intro bA hb W hI KR hKR
          have e8 := hb 8
          simp only [List.getElem?_toArray, List.getElem?_cons_succ, List.getElem?_cons_zero] at e8
          clear hb
          go_simp
          exact hKR _ (Gr.refl _)
        (try simp only [Act.put, List.setIfInBounds_toArray, List.set_cons_zero, List.set_cons_succ])
        refine c_val hX (v := ?_) 3 ({ dst := some 55, op := Go.Op.load 34 (Go.Operand.tmp 54), type := 34, pos := "law.go:96", after := #[{ on := 2, ground := Go.Ground.data }], guard := none }) hI (by kernel_rfl) (by kernel_rfl) rfl ?_ ?_
        rotate_left
        · intro bA hb W hI KR hKR
          have e54 := hb 54
          simp only [List.getElem?_toArray, List.getElem?_cons_succ, List.getElem?_cons_zero] at e54
          clear hb
          refine wp_load_mid 34 (.tmp 54) rfl (w.heap.size + 1 + 1) (0) (ev_tmp e54) (SS (stOf I0)).toList _ (range_below hI HY8.out) Try.underlying34 rfl (info34 _) ?_
          exact hKR _ (hX.refl _)
        (try simp only [Act.put, List.setIfInBounds_toArray, List.set_cons_zero, List.set_cons_succ])
        refine c_val hX (v := ?_) 4 ({ dst := some 56, op := Go.Op.binOp Go.BinOp.eql 34 (Go.Operand.tmp 53) (Go.Operand.tmp 55) 34, type := 4, pos := "law.go:96", after := #[{ on := 1, ground := Go.Ground.data }, { on := 3, ground := Go.Ground.data }], guard := none }) hI (by kernel_rfl) (by kernel_rfl) rfl ?_ ?_
        rotate_left
        · intro bA hb W hI KR hKR
          have e53 := hb 53
          have e55 := hb 55
          simp only [List.getElem?_toArray, List.getElem?_cons_succ, List.getElem?_cons_zero] at e53 e55
          clear hb
          refine wp_run (exec_eql34s (p := stOf I0) (q := stOf I0) rfl (ev_tmp e53) (ev_tmp e55) rfl) ?_
          exact hKR _ (hX.refl _)
        (try simp only [Act.put, List.setIfInBounds_toArray, List.set_cons_zero, List.set_cons_succ])
        refine c_val hX (v := ?_) 5 ({ dst := some 57, op := Go.Op.move (Go.Operand.tmp 56), type := 4, pos := "law.go:96", after := #[{ on := 4, ground := Go.Ground.data }], guard := none }) hI (by kernel_rfl) (by kernel_rfl) rfl ?_ ?_
        rotate_left
        · intro bA hb W hI KR hKR
          have e56 := hb 56
          simp only [List.getElem?_toArray, List.getElem?_cons_succ, List.getElem?_cons_zero] at e56
          clear hb
          go_simp
          exact hKR _ (Gr.refl _)
        (try simp only [Act.put, List.setIfInBounds_toArray, List.set_cons_zero, List.set_cons_succ])
        refine c_val hX (v := ?_) 6 ({ dst := some 58, op := Go.Op.fieldAddr 40 (Go.Operand.tmp 7) 1, type := 0, pos := "law.go:96", after := #[{ on := 5, ground := Go.Ground.guard }], guard := some (5, true) }) hI (by kernel_rfl) (by kernel_rfl) (wanted_of (j := 5) (d := 57) rfl (by kernel_rfl) rfl) ?_ ?_
        rotate_left
        · intro bA hb W hI KR hKR
          have e7 := hb 7
          simp only [List.getElem?_toArray, List.getElem?_cons_succ, List.getElem?_cons_zero] at e7
          clear hb
          go_simp
          exact hKR _ (Gr.refl _)
        (try simp only [Act.put, List.setIfInBounds_toArray, List.set_cons_zero, List.set_cons_succ])
        refine c_val hX (v := ?_) 7 ({ dst := some 59, op := Go.Op.load 3 (Go.Operand.tmp 58), type := 3, pos := "law.go:96", after := #[{ on := 6, ground := Go.Ground.data }, { on := 5, ground := Go.Ground.guard }], guard := some (5, true) }) hI (by kernel_rfl) (by kernel_rfl) (wanted_of (j := 5) (d := 57) rfl (by kernel_rfl) rfl) ?_ ?_
        rotate_left
        · intro bA hb W hI KR hKR
          have e58 := hb 58
          simp only [List.getElem?_toArray, List.getElem?_cons_succ, List.getElem?_cons_zero] at e58
          clear hb
          have cc := cell_below hI HC7.out
          go_simp
          exact hKR _ (hX.refl _)
        (try simp only [Act.put, List.setIfInBounds_toArray, List.set_cons_zero, List.set_cons_succ])
        refine c_val hX (v := ?_) 8 ({ dst := some 60, op := Go.Op.fieldAddr 36 (Go.Operand.tmp 8) 1, type := 0, pos := "law.go:96", after := #[{ on := 5, ground := Go.Ground.guard }], guard := some (5, true) }) hI (by kernel_rfl) (by kernel_rfl) (wanted_of (j := 5) (d := 57) rfl (by kernel_rfl) rfl) ?_ ?_
        rotate_left
        · intro bA hb W hI KR hKR
          have e8 := hb 8
          simp only [List.getElem?_toArray, List.getElem?_cons_succ, List.getElem?_cons_zero] at e8
          clear hb
          go_simp
          exact hKR _ (Gr.refl _)
        (try simp only [Act.put, List.setIfInBounds_toArray, List.set_cons_zero, List.set_cons_succ])
        refine c_val hX (v := ?_) 9 ({ dst := some 61, op := Go.Op.load 3 (Go.Operand.tmp 60), type := 3, pos := "law.go:96", after := #[{ on := 8, ground := Go.Ground.data }, { on := 5, ground := Go.Ground.guard }], guard := some (5, true) }) hI (by kernel_rfl) (by kernel_rfl) (wanted_of (j := 5) (d := 57) rfl (by kernel_rfl) rfl) ?_ ?_
        rotate_left
        · intro bA hb W hI KR hKR
          have e60 := hb 60
          simp only [List.getElem?_toArray, List.getElem?_cons_succ, List.getElem?_cons_zero] at e60
          clear hb
          have cc := cell_below hI HC8.out
          go_simp
          exact hKR _ (hX.refl _)
        (try simp only [Act.put, List.setIfInBounds_toArray, List.set_cons_zero, List.set_cons_succ])
        refine c_val hX (v := ?_) 10 ({ dst := some 62, op := Go.Op.binOp Go.BinOp.eql 3 (Go.Operand.tmp 59) (Go.Operand.tmp 61) 3, type := 4, pos := "law.go:96", after := #[{ on := 7, ground := Go.Ground.data }, { on := 9, ground := Go.Ground.data }, { on := 5, ground := Go.Ground.guard }], guard := some (5, true) }) hI (by kernel_rfl) (by kernel_rfl) (wanted_of (j := 5) (d := 57) rfl (by kernel_rfl) rfl) ?_ ?_
        rotate_left
        · intro bA hb W hI KR hKR
          have e59 := hb 59
          have e61 := hb 61
          simp only [List.getElem?_toArray, List.getElem?_cons_succ, List.getElem?_cons_zero] at e59 e61
          clear hb
          go_simp
          exact hKR _ (Gr.refl _)
        (try simp only [Act.put, List.setIfInBounds_toArray, List.set_cons_zero, List.set_cons_succ])
        refine c_val hX (v := ?_) 11 ({ dst := some 63, op := Go.Op.pick (Go.Operand.tmp 57) (Go.Operand.tmp 62) (Go.Operand.const (Go.Value.bool false)), type := 4, pos := "law.go:96", after := #[{ on := 5, ground := Go.Ground.data }, { on := 10, ground := Go.Ground.data }], guard := none }) hI (by kernel_rfl) (by kernel_rfl) rfl ?_ ?_
        rotate_left
        · intro bA hb W hI KR hKR
          have e57 := hb 57
          have e62 := hb 62
          simp only [List.getElem?_toArray, List.getElem?_cons_succ, List.getElem?_cons_zero] at e57 e62
          clear hb
          go_simp
          exact hKR _ (Gr.refl _)
        (try simp only [Act.put, List.setIfInBounds_toArray, List.set_cons_zero, List.set_cons_succ])
        refine c_val hX (v := ?_) 12 ({ dst := some 64, op := Go.Op.move (Go.Operand.tmp 63), type := 4, pos := "law.go:96", after := #[{ on := 11, ground := Go.Ground.data }, { on := 5, ground := Go.Ground.chain }], guard := none }) hI (by kernel_rfl) (by kernel_rfl) rfl ?_ ?_
        rotate_left
        · intro bA hb W hI KR hKR
          have e63 := hb 63
          simp only [List.getElem?_toArray, List.getElem?_cons_succ, List.getElem?_cons_zero] at e63
          clear hb
          go_simp
          exact hKR _ (Gr.refl _)
        (try simp only [Act.put, List.setIfInBounds_toArray, List.set_cons_zero, List.set_cons_succ])
        refine c_val hX (v := ?_) 13 ({ dst := some 65, op := Go.Op.move (Go.Operand.tmp 9), type := 4, pos := "law.go:96", after := #[{ on := 12, ground := Go.Ground.guard }], guard := some (12, true) }) hI (by kernel_rfl) (by kernel_rfl) (wanted_of (j := 12) (d := 64) rfl (by kernel_rfl) rfl) ?_ ?_
        rotate_left
        · intro bA hb W hI KR hKR
          have e9 := hb 9
          simp only [List.getElem?_toArray, List.getElem?_cons_succ, List.getElem?_cons_zero] at e9
          clear hb
          go_simp
          exact hKR _ (Gr.refl _)
        (try simp only [Act.put, List.setIfInBounds_toArray, List.set_cons_zero, List.set_cons_succ])
        refine c_val hX (v := ?_) 14 ({ dst := some 66, op := Go.Op.move (Go.Operand.tmp 10), type := 4, pos := "law.go:96", after := #[{ on := 12, ground := Go.Ground.guard }], guard := some (12, true) }) hI (by kernel_rfl) (by kernel_rfl) (wanted_of (j := 12) (d := 64) rfl (by kernel_rfl) rfl) ?_ ?_
        rotate_left
        · intro bA hb W hI KR hKR
          have e10 := hb 10
          simp only [List.getElem?_toArray, List.getElem?_cons_succ, List.getElem?_cons_zero] at e10
          clear hb
          go_simp
          exact hKR _ (Gr.refl _)
        (try simp only [Act.put, List.setIfInBounds_toArray, List.set_cons_zero, List.set_cons_succ])
        refine c_val hX (v := ?_) 15 ({ dst := some 67, op := Go.Op.binOp Go.BinOp.eql 4 (Go.Operand.tmp 65) (Go.Operand.tmp 66) 4, type := 4, pos := "law.go:96", after := #[{ on := 13, ground := Go.Ground.data }, { on := 14, ground := Go.Ground.data }, { on := 12, ground := Go.Ground.guard }], guard := some (12, true) }) hI (by kernel_rfl) (by kernel_rfl) (wanted_of (j := 12) (d := 64) rfl (by kernel_rfl) rfl) ?_ ?_
        rotate_left
        · intro bA hb W hI KR hKR
          have e65 := hb 65
          have e66 := hb 66
          simp only [List.getElem?_toArray, List.getElem?_cons_succ, List.getElem?_cons_zero] at e65 e66
          clear hb
          go_simp
          exact hKR _ (Gr.refl _)
        (try simp only [Act.put, List.setIfInBounds_toArray, List.set_cons_zero, List.set_cons_succ])
        refine c_val hX (v := ?_) 16 ({ dst := some 68, op := Go.Op.pick (Go.Operand.tmp 64) (Go.Operand.tmp 67) (Go.Operand.const (Go.Value.bool false)), type := 4, pos := "law.go:96", after := #[{ on := 12, ground := Go.Ground.data }, { on := 15, ground := Go.Ground.data }], guard := none }) hI (by kernel_rfl) (by kernel_rfl) rfl ?_ ?_
        rotate_left
        · intro bA hb W hI KR hKR
          have e64 := hb 64
          have e67 := hb 67
          simp only [List.getElem?_toArray, List.getElem?_cons_succ, List.getElem?_cons_zero] at e64 e67
          clear hb
          go_simp
          exact hKR _ (Gr.refl _)
        (try simp only [Act.put, List.setIfInBounds_toArray, List.set_cons_zero, List.set_cons_succ])
        refine c_val hX (v := ?_) 17 ({ dst := some 69, op := Go.Op.move (Go.Operand.tmp 68), type := 4, pos := "law.go:96", after := #[{ on := 16, ground := Go.Ground.data }, { on := 12, ground := Go.Ground.chain }], guard := none }) hI (by kernel_rfl) (by kernel_rfl) rfl ?_ ?_
        rotate_left
        · intro bA hb W hI KR hKR
          have e68 := hb 68
          simp only [List.getElem?_toArray, List.getElem?_cons_succ, List.getElem?_cons_zero] at e68
          clear hb
          go_simp
          exact hKR _ (Gr.refl _)
        (try simp only [Act.put, List.setIfInBounds_toArray, List.set_cons_zero, List.set_cons_succ])
        refine c_val hX (v := ?_) 18 ({ dst := some 70, op := Go.Op.move (Go.Operand.tmp 0), type := 25, pos := "law.go:96", after := #[{ on := 17, ground := Go.Ground.guard }], guard := some (17, true) }) hI (by kernel_rfl) (by kernel_rfl) (wanted_of (j := 17) (d := 69) rfl (by kernel_rfl) rfl) ?_ ?_
        rotate_left
        · intro bA hb W hI KR hKR
          have e0 := hb 0
          simp only [List.getElem?_toArray, List.getElem?_cons_succ, List.getElem?_cons_zero] at e0
          clear hb
          go_simp
          exact hKR _ (Gr.refl _)
        (try simp only [Act.put, List.setIfInBounds_toArray, List.set_cons_zero, List.set_cons_succ])
        refine c_val hX (v := ?_) 19 ({ dst := some 71, op := Go.Op.call { callee := Go.Callee.value (Go.Operand.func 16), args := #[Go.Operand.tmp 70], argTypes := #[25] }, type := 3, pos := "law.go:96", after := #[{ on := 18, ground := Go.Ground.data }, { on := 17, ground := Go.Ground.chain }, { on := 17, ground := Go.Ground.guard }], guard := some (17, true) }) hI (by kernel_rfl) (by kernel_rfl) (wanted_of (j := 17) (d := 69) rfl (by kernel_rfl) rfl) ?_ ?_
        rotate_left
        · intro bA hb W hI KR hKR
          have e70 := hb 70
          simp only [List.getElem?_toArray, List.getElem?_cons_succ, List.getElem?_cons_zero] at e70
          clear hb
          go_simp
          go_at_call 16
          refine (q_len _ _ _ _ _ _ (HQ.out.below hI)).mono ?_
          rintro e w1 ⟨rfl, rfl⟩
          rw [HLeq.out]
          exact hKR _ (hX.refl _)
        (try simp only [Act.put, List.setIfInBounds_toArray, List.set_cons_zero, List.set_cons_succ])
        refine c_val hX (v := ?_) 20 ({ dst := some 72, op := Go.Op.move (Go.Operand.tmp 1), type := 29, pos := "law.go:96", after := #[{ on := 17, ground := Go.Ground.guard }], guard := some (17, true) }) hI (by kernel_rfl) (by kernel_rfl) (wanted_of (j := 17) (d := 69) rfl (by kernel_rfl) rfl) ?_ ?_
        rotate_left
        · intro bA hb W hI KR hKR
          have e1 := hb 1
          simp only [List.getElem?_toArray, List.getElem?_cons_succ, List.getElem?_cons_zero] at e1
          clear hb
          go_simp
          exact hKR _ (Gr.refl _)
        (try simp only [Act.put, List.setIfInBounds_toArray, List.set_cons_zero, List.set_cons_succ])
        refine c_val hX (v := ?_) 21 ({ dst := some 73, op := Go.Op.nilCheck (Go.Operand.tmp 72), type := 0, pos := "law.go:96", after := #[{ on := 20, ground := Go.Ground.data }, { on := 17, ground := Go.Ground.guard }], guard := some (17, true) }) hI (by kernel_rfl) (by kernel_rfl) (wanted_of (j := 17) (d := 69) rfl (by kernel_rfl) rfl) ?_ ?_
        rotate_left
        · intro bA hb W hI KR hKR
          have e72 := hb 72
          simp only [List.getElem?_toArray, List.getElem?_cons_succ, List.getElem?_cons_zero] at e72
          clear hb
          go_simp
          exact hKR _ (Gr.refl _)
        (try simp only [Act.put, List.setIfInBounds_toArray, List.set_cons_zero, List.set_cons_succ])
        refine c_val hX (v := ?_) 22 ({ dst := some 74, op := Go.Op.fieldAddr 31 (Go.Operand.tmp 73) 0, type := 0, pos := "law.go:96", after := #[{ on := 21, ground := Go.Ground.data }, { on := 17, ground := Go.Ground.guard }], guard := some (17, true) }) hI (by kernel_rfl) (by kernel_rfl) (wanted_of (j := 17) (d := 69) rfl (by kernel_rfl) rfl) ?_ ?_
        rotate_left
        · intro bA hb W hI KR hKR
          have e73 := hb 73
          simp only [List.getElem?_toArray, List.getElem?_cons_succ, List.getElem?_cons_zero] at e73
          clear hb
          go_simp
          exact hKR _ (Gr.refl _)
        (try simp only [Act.put, List.setIfInBounds_toArray, List.set_cons_zero, List.set_cons_succ])
        refine c_val hX (v := ?_) 23 ({ dst := some 75, op := Go.Op.load 22 (Go.Operand.tmp 74), type := 22, pos := "law.go:96", after := #[{ on := 22, ground := Go.Ground.data }, { on := 17, ground := Go.Ground.guard }], guard := some (17, true) }) hI (by kernel_rfl) (by kernel_rfl) (wanted_of (j := 17) (d := 69) rfl (by kernel_rfl) rfl) ?_ ?_
        rotate_left
        · intro bA hb W hI KR hKR
          have e74 := hb 74
          simp only [List.getElem?_toArray, List.getElem?_cons_succ, List.getElem?_cons_zero] at e74
          clear hb
          have cc := cell_of_heap (RV.blk (HR.out.below hI)) (j := 0) rfl
          go_simp
          exact hKR _ (hX.refl _)
        (try simp only [Act.put, List.setIfInBounds_toArray, List.set_cons_zero, List.set_cons_succ])
        refine c_val hX (v := ?_) 24 ({ dst := some 76, op := Go.Op.call { callee := Go.Callee.builtin Go.Builtin.len, args := #[Go.Operand.tmp 75], argTypes := #[22] }, type := 3, pos := "law.go:96", after := #[{ on := 23, ground := Go.Ground.data }, { on := 17, ground := Go.Ground.guard }], guard := some (17, true) }) hI (by kernel_rfl) (by kernel_rfl) (wanted_of (j := 17) (d := 69) rfl (by kernel_rfl) rfl) ?_ ?_
        rotate_left
        · intro bA hb W hI KR hKR
          have e75 := hb 75
          simp only [List.getElem?_toArray, List.getElem?_cons_succ, List.getElem?_cons_zero] at e75
          clear hb
          go_simp
          exact hKR _ (Gr.refl _)
        (try simp only [Act.put, List.setIfInBounds_toArray, List.set_cons_zero, List.set_cons_succ])
        refine c_val hX (v := ?_) 25 ({ dst := some 77, op := Go.Op.binOp Go.BinOp.eql 3 (Go.Operand.tmp 71) (Go.Operand.tmp 76) 3, type := 4, pos := "law.go:96", after := #[{ on := 19, ground := Go.Ground.data }, { on := 24, ground := Go.Ground.data }, { on := 17, ground := Go.Ground.guard }], guard := some (17, true) }) hI (by kernel_rfl) (by kernel_rfl) (wanted_of (j := 17) (d := 69) rfl (by kernel_rfl) rfl) ?_ ?_
        rotate_left
        · intro bA hb W hI KR hKR
          have e71 := hb 71
          have e76 := hb 76
          simp only [List.getElem?_toArray, List.getElem?_cons_succ, List.getElem?_cons_zero] at e71 e76
          clear hb
          go_simp
          exact hKR _ (Gr.refl _)
        (try simp only [Act.put, List.setIfInBounds_toArray, List.set_cons_zero, List.set_cons_succ])
        refine c_val hX (v := ?_) 26 ({ dst := some 78, op := Go.Op.pick (Go.Operand.tmp 69) (Go.Operand.tmp 77) (Go.Operand.const (Go.Value.bool false)), type := 4, pos := "law.go:96", after := #[{ on := 17, ground := Go.Ground.data }, { on := 25, ground := Go.Ground.data }], guard := none }) hI (by kernel_rfl) (by kernel_rfl) rfl ?_ ?_
        rotate_left
        · intro bA hb W hI KR hKR
          have e69 := hb 69
          have e77 := hb 77
          simp only [List.getElem?_toArray, List.getElem?_cons_succ, List.getElem?_cons_zero] at e69 e77
          clear hb
          go_simp
          exact hKR _ (Gr.refl _)
        (try simp only [Act.put, List.setIfInBounds_toArray, List.set_cons_zero, List.set_cons_succ])
        refine c_val hX (v := ?_) 27 ({ dst := some 6, op := Go.Op.assign (Go.Operand.tmp 78), type := 4, pos := "law.go:96", after := #[{ on := 26, ground := Go.Ground.data }, { on := 19, ground := Go.Ground.chain }, { on := 0, ground := Go.Ground.phase }, { on := 1, ground := Go.Ground.phase }, { on := 2, ground := Go.Ground.phase }, { on := 3, ground := Go.Ground.phase }, { on := 4, ground := Go.Ground.phase }, { on := 5, ground := Go.Ground.phase }, { on := 6, ground := Go.Ground.phase }, { on := 7, ground := Go.Ground.phase }, { on := 8, ground := Go.Ground.phase }, { on := 9, ground := Go.Ground.phase }, { on := 10, ground := Go.Ground.phase }, { on := 11, ground := Go.Ground.phase }, { on := 12, ground := Go.Ground.phase }, { on := 13, ground := Go.Ground.phase }, { on := 14, ground := Go.Ground.phase }, { on := 15, ground := Go.Ground.phase }, { on := 16, ground := Go.Ground.phase }, { on := 17, ground := Go.Ground.phase }, { on := 18, ground := Go.Ground.phase }, { on := 19, ground := Go.Ground.phase }, { on := 20, ground := Go.Ground.phase }, { on := 21, ground := Go.Ground.phase }, { on := 22, ground := Go.Ground.phase }, { on := 23, ground := Go.Ground.phase }, { on := 24, ground := Go.Ground.phase }, { on := 25, ground := Go.Ground.phase }, { on := 26, ground := Go.Ground.phase }], guard := none }) hI (by kernel_rfl) (by kernel_rfl) rfl ?_ ?_
        rotate_left
        · intro bA hb W hI KR hKR
          have e78 := hb 78
          simp only [List.getElem?_toArray, List.getElem?_cons_succ, List.getElem?_cons_zero] at e78
          clear hb
          go_simp
          exact hKR _ (Gr.refl _)
        (try simp only [Act.put, List.setIfInBounds_toArray, List.set_cons_zero, List.set_cons_succ])
        refine c_done (by kernel_rfl) ?_
        intro w9 hW
        refine hQ' _ _ ?_
        have hI := hX.keep hI hW
        clear hQ' hX hW
        have HQ9 := Lib.hid (HQ.out.below hI)
        have HR9 := Lib.hid (HR.out.below hI)
        have HP9 := Lib.hid (HP1.out.up hI HBS.out)
        go_wp2
        go_ret
        exact ⟨rfl, _, _, _, _, HQ9.out, HR9.out, HRel1.out, HLen.out, HP9.out⟩
      · have h0 : 0 < xs.length := List.length_pos_iff.2 hxs
        have HNE := Lib.hid (show ys ≠ [] from fun e => by subst e; exact hxs (List.eq_nil_of_length_eq_zero HRel.out.len))
        obtain ⟨y0, hy0⟩ : ∃ y0, at_ xs 0 = y0 := ⟨_, rfl⟩
        have HY0 := Lib.hid hy0
        have H0 := Lib.hid h0
        clear h0 hy0 hxs
        have HOV1 := Lib.hid (show ∀ j, v.ownBlock = some j → j < w.heap.size ∨ w.heap.size + 1 + 1 < j from fun j e => .inl (HOV.out _ e))
        have HOU1 := Lib.hid (show ∀ j, u.ownBlock = some j → j < w.heap.size ∨ w.heap.size + 1 + 1 < j from fun j e => .inl (HOU.out _ e))
        go_wp2_with (first
          | (go_at_call 13; rw [← hW3]; refine (q_peek base gq b v xs _ HQ.out H0.out).mono ?_; rintro e w1 ⟨rfl, h1⟩; rw [HY0.out]; have HS := Lib.hid (HS0.out.up h1); replace HQ := Lib.hid (HQ.out.below h1); replace HR := Lib.hid (HR.out.below h1); replace HP1 := Lib.hid (HP1.out.up h1 HBS.out); have hz1 := h1.size; clear h1)
          | (refine wpList_store_whole rfl 40 (.tmp 7) (.tmp 16) rfl (w.heap.size + 1) (IS y0) (IS I0) 40 rfl rfl HS.out.2.1 rfl (info40 _) (by kernel_rfl) ?_; intro w2 hnew hsz hfar hbel; have hr := (show Rw (w.heap.size + 1) w1 w2 from ⟨hsz, hfar, hbel⟩); have HB7 := Lib.hid hnew; have HB8 := Lib.hid ((hfar (w.heap.size + 1 + 1) (by omega)).trans HS.out.2.2); replace HQ := Lib.hid (HQ.out.rw hr (by omega) (by omega) (fun e => by have := HOV1.out _ e; omega)); replace HR := Lib.hid (HR.out.rw hr (by omega) (fun e => by have := HOU.out _ e; omega)); replace HP1 := Lib.hid (HP1.out.rw hr (by omega) HBS.out); clear hnew hfar hbel hr)
          | (go_at_call 31; refine (rpeek base g u ys _ HR.out HNE.out (by have := HL.out; have := HRel.out.len; omega)).mono ?_; rintro e w3 ⟨m, hm, rfl, h1⟩; rw [HRel.out.root hm, HY0.out]; replace HB7 := Lib.hid ((h1.block _ (heap_lt HB7.out)).trans HB7.out); replace HB8 := Lib.hid ((h1.block _ (heap_lt HB8.out)).trans HB8.out); replace HQ := Lib.hid (HQ.out.below h1); replace HR := Lib.hid (HR.out.below h1); replace HP1 := Lib.hid (HP1.out.up h1 HBS.out); clear h1 hm)
          | (refine wpList_store_whole rfl 36 (.tmp 8) (.tmp 21) rfl (w.heap.size + 1 + 1) (IS y0) (IS I0) 36 rfl rfl HB8.out rfl (info36 _) (by kernel_rfl) ?_; intro w4 hnew hsz hfar hbel; have hr := (show Rw (w.heap.size + 1 + 1) w3 w4 from ⟨hsz, hfar, hbel⟩); replace HB8 := Lib.hid hnew; replace HB7 := Lib.hid ((hfar (w.heap.size + 1) (by omega)).trans HB7.out); replace HQ := Lib.hid (HQ.out.rw hr (by omega) (by omega) (fun e => by have := HOV1.out _ e; omega)); replace HR := Lib.hid (HR.out.rw hr (by omega) (fun e => by have := HOU1.out _ e; omega)); replace HP1 := Lib.hid (HP1.out.rw hr (by omega) HBS.out); clear hnew hfar hbel hr))
        have HRel1 := HRel
        have HLen := Lib.hid (show xs.length ≤ xs.length + 1 from by omega)
        have HY7 := Lib.hid (range_st (range_of_heap HB7.out 0 (IS y0).toList (fun j v hv => by simpa using hv)))
        have HY8 := Lib.hid (range_st (range_of_heap HB8.out 0 (IS y0).toList (fun j v hv => by simpa using hv)))
        have HC7 := Lib.hid (show w4.cell? ⟨w.heap.size + 1, 2, none⟩ = some (.int .i64 (It.g y0)) from cell_of_heap HB7.out (j := 2) rfl)
        have HC8 := Lib.hid (show w4.cell? ⟨w.heap.size + 1 + 1, 2, none⟩ = some (.int .i64 (It.g y0)) from cell_of_heap HB8.out (j := 2) rfl)
        obtain ⟨A9, c9, e9⟩ := own_slice HR.out.row
        subst e9
        have HLeq := Lib.hid HRel1.out.len
        refine run_region (fn := Try.f11) (id := 14) (n := 28) [] (Bw w4) Gr (by kernel_rfl) (by kernel_rfl) (by kernel_rfl) (by kernel_rfl) Gr.refl (fun _ _ _ => Gr.trans) (fun _ _ h k => bel h k) ?_
        intro Q' hQ' hX
        have hI : (Bw w4) _ := below_drew1 (Below.refl _ _)
        (try simp only [Act.put, List.setIfInBounds_toArray, List.set_cons_zero, List.set_cons_succ])
        refine c_val hX (v := ?_) 0 ({ dst := some 52, op := Go.Op.fieldAddr 40 (Go.Operand.tmp 7) 0, type := 0, pos := "law.go:96", after := #[], guard := none }) hI (by kernel_rfl) (by kernel_rfl) rfl ?_ ?_
        rotate_left
        · intro bA hb W hI KR hKR
          have e7 := hb 7
          simp only [List.getElem?_toArray, List.getElem?_cons_succ, List.getElem?_cons_zero] at e7
          clear hb
          go_simp
          exact hKR _ (Gr.refl _)
        (try simp only [Act.put, List.setIfInBounds_toArray, List.set_cons_zero, List.set_cons_succ])
        refine c_val hX (v := ?_) 1 ({ dst := some 53, op := Go.Op.load 34 (Go.Operand.tmp 52), type := 34, pos := "law.go:96", after := #[{ on := 0, ground := Go.Ground.data }], guard := none }) hI (by kernel_rfl) (by kernel_rfl) rfl ?_ ?_
        rotate_left
        · intro bA hb W hI KR hKR
          have e52 := hb 52
          simp only [List.getElem?_toArray, List.getElem?_cons_succ, List.getElem?_cons_zero] at e52
          clear hb
          refine wp_load_mid 34 (.tmp 52) rfl (w.heap.size + 1) (0) (ev_tmp e52) (SS (stOf y0)).toList _ (range_below hI HY7.out) Try.underlying34 rfl (info34 _) ?_
          exact hKR _ (hX.refl _)
        (try simp only [Act.put, List.setIfInBounds_toArray, List.set_cons_zero, List.set_cons_succ])
        refine c_val hX (v := ?_) 2 ({ dst := some 54, op := Go.Op.fieldAddr 36 (Go.Operand.tmp 8) 0, type := 0, pos := "law.go:96", after := #[], guard := none }) hI (by kernel_rfl) (by kernel_rfl) rfl ?_ ?_
        rotate_left
        · intro bA hb W hI KR hKR
          have e8 := hb 8
          simp only [List.getElem?_toArray, List.getElem?_cons_succ, List.getElem?_cons_zero] at e8
          clear hb
          go_simp
          exact hKR _ (Gr.refl _)
        (try simp only [Act.put, List.setIfInBounds_toArray, List.set_cons_zero, List.set_cons_succ])
        refine c_val hX (v := ?_) 3 ({ dst := some 55, op := Go.Op.load 34 (Go.Operand.tmp 54), type := 34, pos := "law.go:96", after := #[{ on := 2, ground := Go.Ground.data }], guard := none }) hI (by kernel_rfl) (by kernel_rfl) rfl ?_ ?_
        rotate_left
        · intro bA hb W hI KR hKR
          have e54 := hb 54
          simp only [List.getElem?_toArray, List.getElem?_cons_succ, List.getElem?_cons_zero] at e54
          clear hb
          refine wp_load_mid 34 (.tmp 54) rfl (w.heap.size + 1 + 1) (0) (ev_tmp e54) (SS (stOf y0)).toList _ (range_below hI HY8.out) Try.underlying34 rfl (info34 _) ?_
          exact hKR _ (hX.refl _)
        (try simp only [Act.put, List.setIfInBounds_toArray, List.set_cons_zero, List.set_cons_succ])
        refine c_val hX (v := ?_) 4 ({ dst := some 56, op := Go.Op.binOp Go.BinOp.eql 34 (Go.Operand.tmp 53) (Go.Operand.tmp 55) 34, type := 4, pos := "law.go:96", after := #[{ on := 1, ground := Go.Ground.data }, { on := 3, ground := Go.Ground.data }], guard := none }) hI (by kernel_rfl) (by kernel_rfl) rfl ?_ ?_
        rotate_left
        · intro bA hb W hI KR hKR
          have e53 := hb 53
          have e55 := hb 55
          simp only [List.getElem?_toArray, List.getElem?_cons_succ, List.getElem?_cons_zero] at e53 e55
          clear hb
          refine wp_run (exec_eql34s (p := stOf y0) (q := stOf y0) rfl (ev_tmp e53) (ev_tmp e55) rfl) ?_
          exact hKR _ (hX.refl _)
        (try simp only [Act.put, List.setIfInBounds_toArray, List.set_cons_zero, List.set_cons_succ])
        refine c_val hX (v := ?_) 5 ({ dst := some 57, op := Go.Op.move (Go.Operand.tmp 56), type := 4, pos := "law.go:96", after := #[{ on := 4, ground := Go.Ground.data }], guard := none }) hI (by kernel_rfl) (by kernel_rfl) rfl ?_ ?_
        rotate_left
        · intro bA hb W hI KR hKR
          have e56 := hb 56
          simp only [List.getElem?_toArray, List.getElem?_cons_succ, List.getElem?_cons_zero] at e56
          clear hb
          go_simp
          exact hKR _ (Gr.refl _)
        (try simp only [Act.put, List.setIfInBounds_toArray, List.set_cons_zero, List.set_cons_succ])
        refine c_val hX (v := ?_) 6 ({ dst := some 58, op := Go.Op.fieldAddr 40 (Go.Operand.tmp 7) 1, type := 0, pos := "law.go:96", after := #[{ on := 5, ground := Go.Ground.guard }], guard := some (5, true) }) hI (by kernel_rfl) (by kernel_rfl) (wanted_of (j := 5) (d := 57) rfl (by kernel_rfl) rfl) ?_ ?_
        rotate_left
        · intro bA hb W hI KR hKR
          have e7 := hb 7
          simp only [List.getElem?_toArray, List.getElem?_cons_succ, List.getElem?_cons_zero] at e7
          clear hb
          go_simp
          exact hKR _ (Gr.refl _)
        (try simp only [Act.put, List.setIfInBounds_toArray, List.set_cons_zero, List.set_cons_succ])
        refine c_val hX (v := ?_) 7 ({ dst := some 59, op := Go.Op.load 3 (Go.Operand.tmp 58), type := 3, pos := "law.go:96", after := #[{ on := 6, ground := Go.Ground.data }, { on := 5, ground := Go.Ground.guard }], guard := some (5, true) }) hI (by kernel_rfl) (by kernel_rfl) (wanted_of (j := 5) (d := 57) rfl (by kernel_rfl) rfl) ?_ ?_
        rotate_left
        · intro bA hb W hI KR hKR
          have e58 := hb 58
          simp only [List.getElem?_toArray, List.getElem?_cons_succ, List.getElem?_cons_zero] at e58
          clear hb
          have cc := cell_below hI HC7.out
          go_simp
          exact hKR _ (hX.refl _)
        (try simp only [Act.put, List.setIfInBounds_toArray, List.set_cons_zero, List.set_cons_succ])
        refine c_val hX (v := ?_) 8 ({ dst := some 60, op := Go.Op.fieldAddr 36 (Go.Operand.tmp 8) 1, type := 0, pos := "law.go:96", after := #[{ on := 5, ground := Go.Ground.guard }], guard := some (5, true) }) hI (by kernel_rfl) (by kernel_rfl) (wanted_of (j := 5) (d := 57) rfl (by kernel_rfl) rfl) ?_ ?_
        rotate_left
        · intro bA hb W hI KR hKR
          have e8 := hb 8
          simp only [List.getElem?_toArray, List.getElem?_cons_succ, List.getElem?_cons_zero] at e8
          clear hb
          go_simp
          exact hKR _ (Gr.refl _)
        (try simp only [Act.put, List.setIfInBounds_toArray, List.set_cons_zero, List.set_cons_succ])
        refine c_val hX (v := ?_) 9 ({ dst := some 61, op := Go.Op.load 3 (Go.Operand.tmp 60), type := 3, pos := "law.go:96", after := #[{ on := 8, ground := Go.Ground.data }, { on := 5, ground := Go.Ground.guard }], guard := some (5, true) }) hI (by kernel_rfl) (by kernel_rfl) (wanted_of (j := 5) (d := 57) rfl (by kernel_rfl) rfl) ?_ ?_
        rotate_left
        · intro bA hb W hI KR hKR
          have e60 := hb 60
          simp only [List.getElem?_toArray, List.getElem?_cons_succ, List.getElem?_cons_zero] at e60
          clear hb
          have cc := cell_below hI HC8.out
          go_simp
          exact hKR _ (hX.refl _)
        (try simp only [Act.put, List.setIfInBounds_toArray, List.set_cons_zero, List.set_cons_succ])
        refine c_val hX (v := ?_) 10 ({ dst := some 62, op := Go.Op.binOp Go.BinOp.eql 3 (Go.Operand.tmp 59) (Go.Operand.tmp 61) 3, type := 4, pos := "law.go:96", after := #[{ on := 7, ground := Go.Ground.data }, { on := 9, ground := Go.Ground.data }, { on := 5, ground := Go.Ground.guard }], guard := some (5, true) }) hI (by kernel_rfl) (by kernel_rfl) (wanted_of (j := 5) (d := 57) rfl (by kernel_rfl) rfl) ?_ ?_
        rotate_left
        · intro bA hb W hI KR hKR
          have e59 := hb 59
          have e61 := hb 61
          simp only [List.getElem?_toArray, List.getElem?_cons_succ, List.getElem?_cons_zero] at e59 e61
          clear hb
          go_simp
          exact hKR _ (Gr.refl _)
        (try simp only [Act.put, List.setIfInBounds_toArray, List.set_cons_zero, List.set_cons_succ])
        refine c_val hX (v := ?_) 11 ({ dst := some 63, op := Go.Op.pick (Go.Operand.tmp 57) (Go.Operand.tmp 62) (Go.Operand.const (Go.Value.bool false)), type := 4, pos := "law.go:96", after := #[{ on := 5, ground := Go.Ground.data }, { on := 10, ground := Go.Ground.data }], guard := none }) hI (by kernel_rfl) (by kernel_rfl) rfl ?_ ?_
        rotate_left
        · intro bA hb W hI KR hKR
          have e57 := hb 57
          have e62 := hb 62
          simp only [List.getElem?_toArray, List.getElem?_cons_succ, List.getElem?_cons_zero] at e57 e62
          clear hb
          go_simp
          exact hKR _ (Gr.refl _)
        (try simp only [Act.put, List.setIfInBounds_toArray, List.set_cons_zero, List.set_cons_succ])
        refine c_val hX (v := ?_) 12 ({ dst := some 64, op := Go.Op.move (Go.Operand.tmp 63), type := 4, pos := "law.go:96", after := #[{ on := 11, ground := Go.Ground.data }, { on := 5, ground := Go.Ground.chain }], guard := none }) hI (by kernel_rfl) (by kernel_rfl) rfl ?_ ?_
        rotate_left
        · intro bA hb W hI KR hKR
          have e63 := hb 63
          simp only [List.getElem?_toArray, List.getElem?_cons_succ, List.getElem?_cons_zero] at e63
          clear hb
          go_simp
          exact hKR _ (Gr.refl _)
        (try simp only [Act.put, List.setIfInBounds_toArray, List.set_cons_zero, List.set_cons_succ])
        refine c_val hX (v := ?_) 13 ({ dst := some 65, op := Go.Op.move (Go.Operand.tmp 9), type := 4, pos := "law.go:96", after := #[{ on := 12, ground := Go.Ground.guard }], guard := some (12, true) }) hI (by kernel_rfl) (by kernel_rfl) (wanted_of (j := 12) (d := 64) rfl (by kernel_rfl) rfl) ?_ ?_
        rotate_left
        · intro bA hb W hI KR hKR
          have e9 := hb 9
          simp only [List.getElem?_toArray, List.getElem?_cons_succ, List.getElem?_cons_zero] at e9
          clear hb
          go_simp
          exact hKR _ (Gr.refl _)
        (try simp only [Act.put, List.setIfInBounds_toArray, List.set_cons_zero, List.set_cons_succ])
        refine c_val hX (v := ?_) 14 ({ dst := some 66, op := Go.Op.move (Go.Operand.tmp 10), type := 4, pos := "law.go:96", after := #[{ on := 12, ground := Go.Ground.guard }], guard := some (12, true) }) hI (by kernel_rfl) (by kernel_rfl) (wanted_of (j := 12) (d := 64) rfl (by kernel_rfl) rfl) ?_ ?_
        rotate_left
        · intro bA hb W hI KR hKR
          have e10 := hb 10
          simp only [List.getElem?_toArray, List.getElem?_cons_succ, List.getElem?_cons_zero] at e10
          clear hb
          go_simp
          exact hKR _ (Gr.refl _)
        (try simp only [Act.put, List.setIfInBounds_toArray, List.set_cons_zero, List.set_cons_succ])
        refine c_val hX (v := ?_) 15 ({ dst := some 67, op := Go.Op.binOp Go.BinOp.eql 4 (Go.Operand.tmp 65) (Go.Operand.tmp 66) 4, type := 4, pos := "law.go:96", after := #[{ on := 13, ground := Go.Ground.data }, { on := 14, ground := Go.Ground.data }, { on := 12, ground := Go.Ground.guard }], guard := some (12, true) }) hI (by kernel_rfl) (by kernel_rfl) (wanted_of (j := 12) (d := 64) rfl (by kernel_rfl) rfl) ?_ ?_
        rotate_left
        · intro bA hb W hI KR hKR
          have e65 := hb 65
          have e66 := hb 66
          simp only [List.getElem?_toArray, List.getElem?_cons_succ, List.getElem?_cons_zero] at e65 e66
          clear hb
          go_simp
          exact hKR _ (Gr.refl _)
        (try simp only [Act.put, List.setIfInBounds_toArray, List.set_cons_zero, List.set_cons_succ])
        refine c_val hX (v := ?_) 16 ({ dst := some 68, op := Go.Op.pick (Go.Operand.tmp 64) (Go.Operand.tmp 67) (Go.Operand.const (Go.Value.bool false)), type := 4, pos := "law.go:96", after := #[{ on := 12, ground := Go.Ground.data }, { on := 15, ground := Go.Ground.data }], guard := none }) hI (by kernel_rfl) (by kernel_rfl) rfl ?_ ?_
        rotate_left
        · intro bA hb W hI KR hKR
          have e64 := hb 64
          have e67 := hb 67
          simp only [List.getElem?_toArray, List.getElem?_cons_succ, List.getElem?_cons_zero] at e64 e67
          clear hb
          go_simp
          exact hKR _ (Gr.refl _)
        (try simp only [Act.put, List.setIfInBounds_toArray, List.set_cons_zero, List.set_cons_succ])
        refine c_val hX (v := ?_) 17 ({ dst := some 69, op := Go.Op.move (Go.Operand.tmp 68), type := 4, pos := "law.go:96", after := #[{ on := 16, ground := Go.Ground.data }, { on := 12, ground := Go.Ground.chain }], guard := none }) hI (by kernel_rfl) (by kernel_rfl) rfl ?_ ?_
        rotate_left
        · intro bA hb W hI KR hKR
          have e68 := hb 68
          simp only [List.getElem?_toArray, List.getElem?_cons_succ, List.getElem?_cons_zero] at e68
          clear hb
          go_simp
          exact hKR _ (Gr.refl _)
        (try simp only [Act.put, List.setIfInBounds_toArray, List.set_cons_zero, List.set_cons_succ])
        refine c_val hX (v := ?_) 18 ({ dst := some 70, op := Go.Op.move (Go.Operand.tmp 0), type := 25, pos := "law.go:96", after := #[{ on := 17, ground := Go.Ground.guard }], guard := some (17, true) }) hI (by kernel_rfl) (by kernel_rfl) (wanted_of (j := 17) (d := 69) rfl (by kernel_rfl) rfl) ?_ ?_
        rotate_left
        · intro bA hb W hI KR hKR
          have e0 := hb 0
          simp only [List.getElem?_toArray, List.getElem?_cons_succ, List.getElem?_cons_zero] at e0
          clear hb
          go_simp
          exact hKR _ (Gr.refl _)
        (try simp only [Act.put, List.setIfInBounds_toArray, List.set_cons_zero, List.set_cons_succ])
        refine c_val hX (v := ?_) 19 ({ dst := some 71, op := Go.Op.call { callee := Go.Callee.value (Go.Operand.func 16), args := #[Go.Operand.tmp 70], argTypes := #[25] }, type := 3, pos := "law.go:96", after := #[{ on := 18, ground := Go.Ground.data }, { on := 17, ground := Go.Ground.chain }, { on := 17, ground := Go.Ground.guard }], guard := some (17, true) }) hI (by kernel_rfl) (by kernel_rfl) (wanted_of (j := 17) (d := 69) rfl (by kernel_rfl) rfl) ?_ ?_
        rotate_left
        · intro bA hb W hI KR hKR
          have e70 := hb 70
          simp only [List.getElem?_toArray, List.getElem?_cons_succ, List.getElem?_cons_zero] at e70
          clear hb
          go_simp
          go_at_call 16
          refine (q_len _ _ _ _ _ _ (HQ.out.below hI)).mono ?_
          rintro e w1 ⟨rfl, rfl⟩
          rw [HLeq.out]
          exact hKR _ (hX.refl _)
        (try simp only [Act.put, List.setIfInBounds_toArray, List.set_cons_zero, List.set_cons_succ])
        refine c_val hX (v := ?_) 20 ({ dst := some 72, op := Go.Op.move (Go.Operand.tmp 1), type := 29, pos := "law.go:96", after := #[{ on := 17, ground := Go.Ground.guard }], guard := some (17, true) }) hI (by kernel_rfl) (by kernel_rfl) (wanted_of (j := 17) (d := 69) rfl (by kernel_rfl) rfl) ?_ ?_
        rotate_left
        · intro bA hb W hI KR hKR
          have e1 := hb 1
          simp only [List.getElem?_toArray, List.getElem?_cons_succ, List.getElem?_cons_zero] at e1
          clear hb
          go_simp
          exact hKR _ (Gr.refl _)
        (try simp only [Act.put, List.setIfInBounds_toArray, List.set_cons_zero, List.set_cons_succ])
        refine c_val hX (v := ?_) 21 ({ dst := some 73, op := Go.Op.nilCheck (Go.Operand.tmp 72), type := 0, pos := "law.go:96", after := #[{ on := 20, ground := Go.Ground.data }, { on := 17, ground := Go.Ground.guard }], guard := some (17, true) }) hI (by kernel_rfl) (by kernel_rfl) (wanted_of (j := 17) (d := 69) rfl (by kernel_rfl) rfl) ?_ ?_
        rotate_left
        · intro bA hb W hI KR hKR
          have e72 := hb 72
          simp only [List.getElem?_toArray, List.getElem?_cons_succ, List.getElem?_cons_zero] at e72
          clear hb
          go_simp
          exact hKR _ (Gr.refl _)
        (try simp only [Act.put, List.setIfInBounds_toArray, List.set_cons_zero, List.set_cons_succ])
        refine c_val hX (v := ?_) 22 ({ dst := some 74, op := Go.Op.fieldAddr 31 (Go.Operand.tmp 73) 0, type := 0, pos := "law.go:96", after := #[{ on := 21, ground := Go.Ground.data }, { on := 17, ground := Go.Ground.guard }], guard := some (17, true) }) hI (by kernel_rfl) (by kernel_rfl) (wanted_of (j := 17) (d := 69) rfl (by kernel_rfl) rfl) ?_ ?_
        rotate_left
        · intro bA hb W hI KR hKR
          have e73 := hb 73
          simp only [List.getElem?_toArray, List.getElem?_cons_succ, List.getElem?_cons_zero] at e73
          clear hb
          go_simp
          exact hKR _ (Gr.refl _)
        (try simp only [Act.put, List.setIfInBounds_toArray, List.set_cons_zero, List.set_cons_succ])
        refine c_val hX (v := ?_) 23 ({ dst := some 75, op := Go.Op.load 22 (Go.Operand.tmp 74), type := 22, pos := "law.go:96", after := #[{ on := 22, ground := Go.Ground.data }, { on := 17, ground := Go.Ground.guard }], guard := some (17, true) }) hI (by kernel_rfl) (by kernel_rfl) (wanted_of (j := 17) (d := 69) rfl (by kernel_rfl) rfl) ?_ ?_
        rotate_left
        · intro bA hb W hI KR hKR
          have e74 := hb 74
          simp only [List.getElem?_toArray, List.getElem?_cons_succ, List.getElem?_cons_zero] at e74
          clear hb
          have cc := cell_of_heap (RV.blk (HR.out.below hI)) (j := 0) rfl
          go_simp
          exact hKR _ (hX.refl _)
        (try simp only [Act.put, List.setIfInBounds_toArray, List.set_cons_zero, List.set_cons_succ])
        refine c_val hX (v := ?_) 24 ({ dst := some 76, op := Go.Op.call { callee := Go.Callee.builtin Go.Builtin.len, args := #[Go.Operand.tmp 75], argTypes := #[22] }, type := 3, pos := "law.go:96", after := #[{ on := 23, ground := Go.Ground.data }, { on := 17, ground := Go.Ground.guard }], guard := some (17, true) }) hI (by kernel_rfl) (by kernel_rfl) (wanted_of (j := 17) (d := 69) rfl (by kernel_rfl) rfl) ?_ ?_
        rotate_left
        · intro bA hb W hI KR hKR
          have e75 := hb 75
          simp only [List.getElem?_toArray, List.getElem?_cons_succ, List.getElem?_cons_zero] at e75
          clear hb
          go_simp
          exact hKR _ (Gr.refl _)
        (try simp only [Act.put, List.setIfInBounds_toArray, List.set_cons_zero, List.set_cons_succ])
        refine c_val hX (v := ?_) 25 ({ dst := some 77, op := Go.Op.binOp Go.BinOp.eql 3 (Go.Operand.tmp 71) (Go.Operand.tmp 76) 3, type := 4, pos := "law.go:96", after := #[{ on := 19, ground := Go.Ground.data }, { on := 24, ground := Go.Ground.data }, { on := 17, ground := Go.Ground.guard }], guard := some (17, true) }) hI (by kernel_rfl) (by kernel_rfl) (wanted_of (j := 17) (d := 69) rfl (by kernel_rfl) rfl) ?_ ?_
        rotate_left
        · intro bA hb W hI KR hKR
          have e71 := hb 71
          have e76 := hb 76
          simp only [List.getElem?_toArray, List.getElem?_cons_succ, List.getElem?_cons_zero] at e71 e76
          clear hb
          go_simp
          exact hKR _ (Gr.refl _)
        (try simp only [Act.put, List.setIfInBounds_toArray, List.set_cons_zero, List.set_cons_succ])
        refine c_val hX (v := ?_) 26 ({ dst := some 78, op := Go.Op.pick (Go.Operand.tmp 69) (Go.Operand.tmp 77) (Go.Operand.const (Go.Value.bool false)), type := 4, pos := "law.go:96", after := #[{ on := 17, ground := Go.Ground.data }, { on := 25, ground := Go.Ground.data }], guard := none }) hI (by kernel_rfl) (by kernel_rfl) rfl ?_ ?_
        rotate_left
        · intro bA hb W hI KR hKR
          have e69 := hb 69
          have e77 := hb 77
          simp only [List.getElem?_toArray, List.getElem?_cons_succ, List.getElem?_cons_zero] at e69 e77
          clear hb
          go_simp
          exact hKR _ (Gr.refl _)
        (try simp only [Act.put, List.setIfInBounds_toArray, List.set_cons_zero, List.set_cons_succ])
        refine c_val hX (v := ?_) 27 ({ dst := some 6, op := Go.Op.assign (Go.Operand.tmp 78), type := 4, pos := "law.go:96", after := #[{ on := 26, ground := Go.Ground.data }, { on := 19, ground := Go.Ground.chain }, { on := 0, ground := Go.Ground.phase }, { on := 1, ground := Go.Ground.phase }, { on := 2, ground := Go.Ground.phase }, { on := 3, ground := Go.Ground.phase }, { on := 4, ground := Go.Ground.phase }, { on := 5, ground := Go.Ground.phase }, { on := 6, ground := Go.Ground.phase }, { on := 7, ground := Go.Ground.phase }, { on := 8, ground := Go.Ground.phase }, { on := 9, ground := Go.Ground.phase }, { on := 10, ground := Go.Ground.phase }, { on := 11, ground := Go.Ground.phase }, { on := 12, ground := Go.Ground.phase }, { on := 13, ground := Go.Ground.phase }, { on := 14, ground := Go.Ground.phase }, { on := 15, ground := Go.Ground.phase }, { on := 16, ground := Go.Ground.phase }, { on := 17, ground := Go.Ground.phase }, { on := 18, ground := Go.Ground.phase }, { on := 19, ground := Go.Ground.phase }, { on := 20, ground := Go.Ground.phase }, { on := 21, ground := Go.Ground.phase }, { on := 22, ground := Go.Ground.phase }, { on := 23, ground := Go.Ground.phase }, { on := 24, ground := Go.Ground.phase }, { on := 25, ground := Go.Ground.phase }, { on := 26, ground := Go.Ground.phase }], guard := none }) hI (by kernel_rfl) (by kernel_rfl) rfl ?_ ?_
        rotate_left
        · intro bA hb W hI KR hKR
          have e78 := hb 78
          simp only [List.getElem?_toArray, List.getElem?_cons_succ, List.getElem?_cons_zero] at e78
          clear hb
          go_simp
          exact hKR _ (Gr.refl _)
        (try simp only [Act.put, List.setIfInBounds_toArray, List.set_cons_zero, List.set_cons_succ])
        refine c_done (by kernel_rfl) ?_
        intro w9 hW
        refine hQ' _ _ ?_
        have hI := hX.keep hI hW
        clear hQ' hX hW
        have HQ9 := Lib.hid (HQ.out.below hI)
        have HR9 := Lib.hid (HR.out.below hI)
        have HP9 := Lib.hid (HP1.out.up hI HBS.out)
        go_wp2
        go_ret
        exact ⟨rfl, _, _, _, _, HQ9.out, HR9.out, HRel1.out, HLen.out, HP9.out⟩
end Go.Proofs.Ytndfoohdoadkfaa
