/- QueueOrder: the walk. -/
import Derived.Test.YtndfoohdoadkfaaOA
set_option linter.unusedVariables false
set_option linter.unusedSimpArgs false
namespace Go.Proofs.Ytndfoohdoadkfaa
open Go.RowKit
theorem wpl_app {P : Program} {o : Oper} {a : Act} {Q : Exit → Act → World → Prop} {ops : Array Oper} {rest : List Oper} {W W' : World} {v u v' : Value} {T : TypeId} (hr : (Builtin.append_ #[T, T] T #[v, u]).run P W = .ok v' W') (hg : o.guard = none) (s x : Operand) (ho : o.op = .call { callee := .builtin .append, args := #[s, x], argTypes := #[T, T] }) (hty : o.type = T)
    (hs : a.eval s = v) (hx : a.eval x = u) (h : wpList P ops Q rest (a.put o.dst v') W') : wpList P ops Q (o :: rest) a W :=
  wpList_plain hg fun K hK => wp_app s x ho hty hs hx hr (hK _ _ h)
theorem exec_makeMap {P : Program} {ρ : Operand → Value} {o : Oper} {t : TypeId} {w : World} (ho : o.op = .makeMap t none) : (execOp ρ o).run P w = .ok (.value (.map (some w.heap.size))) (w.alloc (.map #[] 0)) := by
  simp only [execOp, ho, Option.map_none, Sem.run_bind, Instr.makeMap]
  rfl
theorem QV.base {W : World} {b0 b' gq b : Nat} {v : Value} {xs : List It} (h : QV W b' gq b v xs) (hb : b0 ≤ b') : QV W b0 gq b v xs := ⟨h.q, ⟨h.pv.blk, own_base h.pv.row hb⟩⟩
theorem QV.keep {W W' : World} {base gq b : Nat} {v : Value} {xs : List It} (h : QV W base gq b v xs) (h1 : W'.heap[gq]? = W.heap[gq]?) (h2 : W'.heap[b]? = W.heap[b]?) (h3 : ∀ k, v.ownBlock = some k → W'.heap[k]? = W.heap[k]?) : QV W' base gq b v xs :=
  ⟨h1.trans h.q, ⟨h2.trans h.pv.blk, own_keep h.pv.row h3⟩⟩
/-- A map is no row. -/
theorem Left.ne {W : World} {m k : Nat} {xs : List It} {cs : Array Value} {T : TypeId} {f : Nat × Nat} (h : Left W m xs) (hk : W.heap[k]? = some (.cells cs T f)) : k ≠ m := by
  rintro rfl
  obtain ⟨l, ⟨es, clock, h1, _⟩, _⟩ := h
  rw [hk] at h1
  cases h1
/-- The state in QueueOrder: the queue, the counts, the row of all. -/
structure Od (W : World) (base gq b : Nat) (v : Value) (qs : List It) (m : Nat) (ls : List It) (va : Value) (all : List It) : Prop where
  q : QV W base gq b v qs
  left : Left W m ls
  row : W.ownsRow base 40 3 va all.length (cellsI all)
  apart : ∀ k, v.ownBlock = some k → va.ownBlock ≠ some k
section
variable {W W' : World} {base gq b m : Nat} {v va : Value} {qs ls all : List It}
theorem Od.below (h : Od W base gq b v qs m ls va all) (hb : Below W.heap.size W W') : Od W' base gq b v qs m ls va all :=
  ⟨h.q.below hb, h.left.below hb, pw_own_below h.row hb, h.apart⟩
theorem Od.turn (h : Od W base gq b v qs m ls va all) (t : Turn m W W') {ls' : List It} (hl : Left W' m ls') : Od W' base gq b v qs m ls' va all := by
  refine ⟨h.q.keep (t.far _ (h.left.ne h.q.q)) (t.far _ (h.left.ne h.q.pv.blk)) (fun k hk => ?_), hl, own_keep h.row fun k hk => ?_, h.apart⟩
  · obtain ⟨cs, hc⟩ := own_blk h.q.pv.row hk
    exact t.far _ (h.left.ne hc)
  · obtain ⟨cs, hc⟩ := own_blk h.row hk
    exact t.far _ (h.left.ne hc)
theorem Od.pq (h : Od W base gq b v qs m ls va all) {v' : Value} {qs' : List It} (hq : QV W' base gq b v' qs') (p : Pq base b v W v' W') : Od W' base gq b v' qs' m ls va all := by
  refine ⟨hq, ?_, own_keep h.row fun k hk => ?_, fun k h1 h2 => ?_⟩
  · obtain ⟨l, ⟨es, clock, h1, h2⟩, h3⟩ := h.left
    refine ⟨l, ⟨es, clock, (p.far m (Array.getElem?_eq_some_iff.1 h1).1 (fun e => h.left.ne h.q.pv.blk e.symm) (fun e => ?_)).trans h1, h2⟩, h3⟩
    obtain ⟨cs, hc⟩ := own_blk h.q.pv.row e
    exact h.left.ne hc rfl
  · obtain ⟨cs, hc⟩ := own_blk h.row hk
    exact p.far k (heap_lt hc) (blk_ne hc h.q.pv.blk (by decide)) (fun e => h.apart k e hk)
  · rcases p.own k h1 with q | q
    · exact h.apart k q h2
    · obtain ⟨cs, hc⟩ := own_blk h.row h2
      have := heap_lt hc
      omega
end
theorem Od.grown {W W' : World} {base gq b m : Nat} {v va va' : Value} {qs ls all all' : List It} (h : Od W base gq b v qs m ls va all) (g : W.grownBy W' va.ownBlock) (hr : W'.ownsRow base 40 3 va' all'.length (cellsI all')) (t : va'.ownBlock = va.ownBlock ∨ va'.ownBlock = some W.heap.size) : Od W' base gq b v qs m ls va' all' := by
  have no : ∀ (k : Nat) (cs : Array Value) (T : TypeId), W.heap[k]? = some (.cells cs T (0, 0)) → T ≠ 40 → some k ≠ va.ownBlock := fun k cs T hk hT e => by
    obtain ⟨cs', hc'⟩ := own_blk h.row e.symm
    exact blk_ne hk hc' hT rfl
  refine ⟨h.q.keep (g.block _ (heap_lt h.q.q) (no _ _ _ h.q.q (by decide))) (g.block _ (heap_lt h.q.pv.blk) (no _ _ _ h.q.pv.blk (by decide))) (fun k hk => ?_), ?_, hr, fun k h1 h2 => ?_⟩
  · obtain ⟨cs, hc⟩ := own_blk h.q.pv.row hk
    exact g.block k (heap_lt hc) (fun e => h.apart k hk e.symm)
  · obtain ⟨l, ⟨es, clock, h1, h2⟩, h3⟩ := h.left
    refine ⟨l, ⟨es, clock, (g.block m (Array.getElem?_eq_some_iff.1 h1).1 (fun e => ?_)).trans h1, h2⟩, h3⟩
    obtain ⟨cs, hc⟩ := own_blk h.row e.symm
    exact h.left.ne hc rfl
  · rcases t with t | t
    · exact h.apart k h1 (t ▸ h2)
    · rw [t] at h2
      injection h2 with h2
      obtain ⟨cs, hc⟩ := own_blk h.q.pv.row h1
      have := heap_lt hc
      omega
theorem rowL {W : World} {base T g L cap : Nat} {l : List It} {x : It} {k : Nat} (h : W.ownsRow base T 3 (.slice (some ⟨g, 0, none⟩) L cap) l.length (cellsI l)) (hL : L = l.length) (hk : l[k]? = some x) : W.rangeAt g (k * 3) (IS x).toList := by
  subst hL
  exact row_range h hk
theorem Left.congr {W : World} {m : Nat} {xs ys : List It} (h : Left W m xs) (e : ∀ y, xs.count y = ys.count y) : Left W m ys := by
  obtain ⟨l, h1, h2⟩ := h
  exact ⟨l, h1, fun y => by rw [h2 y, e y]⟩
theorem Od.recount {W : World} {base gq b m : Nat} {v va : Value} {qs ls ls' all : List It} (h : Od W base gq b v qs m ls va all) (e : ∀ y, ls.count y = ls'.count y) : Od W base gq b v qs m ls' va all := ⟨h.q, h.left.congr e, h.row, h.apart⟩
/-- What the counting looks at. -/
def LO (base m : Nat) (va : Value) (all ls : List It) (W : World) : Prop := W.ownsRow base 40 3 va all.length (cellsI all) ∧ Left W m ls
theorem LO.up {base m : Nat} {va : Value} {all ls : List It} {W W' : World} (h : LO base m va all ls W) (g : Gr W W') : LO base m va all ls W' := ⟨pw_own_below h.1 g, h.2.below g⟩
/-- What the striking looks at. -/
def LX (g : Nat) (y : It) (m : Nat) (ls : List It) (W : World) : Prop := W.heap[g]? = some (.cells (IS y) 40 (0, 0)) ∧ Left W m ls
theorem LX.up {g m : Nat} {y : It} {ls : List It} {W W' : World} (h : LX g y m ls W) (k : Gr W W') : LX g y m ls W' := ⟨(k.block _ (heap_lt h.1)).trans h.1, h.2.below k⟩
theorem Od.rw {W W' : World} {base gq b m t : Nat} {v va : Value} {qs ls all : List It} {cs : Array Value} (h : Od W base gq b v qs m ls va all) (r : Rw t W W') (ht : W.heap[t]? = some (.cells cs 40 (0, 0))) (h1 : ∀ k, v.ownBlock = some k → k ≠ t) (h2 : ∀ k, va.ownBlock = some k → k ≠ t) : Od W' base gq b v qs m ls va all := by
  refine ⟨h.q.keep (r.far _ (blk_ne h.q.q ht (by decide))) (r.far _ (blk_ne h.q.pv.blk ht (by decide))) (fun k hk => r.far _ (h1 k hk)), h.left.keep (r.far _ (Ne.symm (h.left.ne ht))), own_keep h.row (fun k hk => r.far _ (h2 k hk)), h.apart⟩
theorem count_next {al : List It} {i : Nat} {x : It} (h : al[i]? = some x) : ((al.take (i + 1)).count x = (al.take i).count x + 1) ∧ ∀ y, y ≠ x → (al.take (i + 1)).count y = (al.take i).count y := by
  have hi := (List.getElem?_eq_some_iff.1 h).1
  have he := (List.getElem?_eq_some_iff.1 h).2
  rw [List.take_succ_eq_append_getElem hi, he]
  refine ⟨by simp, fun y hy => ?_⟩
  rw [List.count_append, List.count_singleton]
  simp [Ne.symm hy]
set_option maxRecDepth 10000 in
set_option maxHeartbeats 4000000 in
theorem order_any (vx : Value) (xs : List It) (vy : Value) (ys : List It) (w : World) (ha : RowI w vx xs) (hb : RowI w vy ys) :
    Calls Try.prog 5 #[vx, vy] w fun e w' => e = .returned (.bool true) ∧ Below w.heap.size w w' := by
  have HA1 := Lib.hid ha
  have HA2 := Lib.hid ha
  have HY1 := Lib.hid hb
  have HY2 := Lib.hid hb
  obtain ⟨Aa, ca, rfl, ka, _⟩ := ha
  obtain ⟨Ab, cb, rfl, kb, _⟩ := hb
  obtain ⟨N1, hN1⟩ : ∃ N, N = xs.length := ⟨_, rfl⟩
  obtain ⟨N2, hN2⟩ : ∃ N, N = ys.length := ⟨_, rfl⟩
  have HN1 := Lib.hid hN1
  have HN2 := Lib.hid hN2
  rw [← hN1] at ka HA1 HA2 ⊢
  rw [← hN2] at kb HY1 HY2 ⊢
  clear hN1 hN2
  obtain ⟨al, hal⟩ : ∃ al, al = xs ++ ys := ⟨_, rfl⟩
  have HALL := Lib.hid hal
  clear hal
  go_enter Try.func5, Try.ntmps5
  by_cases l1 : N1 ≤ 300
  · by_cases l2 : N2 ≤ 300
    · have g1 : ¬ (300 : Int) < (N1 : Int) := by omega
      have g2 : ¬ (300 : Int) < (N2 : Int) := by omega
      have HL1 := Lib.hid (show xs.length ≤ 300 from by rw [← HN1.out]; exact l1)
      have HL2 := Lib.hid (show ys.length ≤ 300 from by rw [← HN2.out]; exact l2)
      go_wp2_with (first
        | (refine wpList_of_run rfl (exec_makeMap rfl) ?_)
        | (refine wpl_app A1.out rfl (.tmp 36) (.tmp 38) rfl rfl (by kernel_rfl) (by kernel_rfl) ?_; clear A1)
        | (go_at_call 8; refine (knows_is _).mono ?_; rintro e w3 ⟨rfl, h3⟩; have H3 := Lib.hid (bel H2.out h3); have Q3 := Lib.hid (Q2.out.below h3); clear h3 H2 Q2)
        | (go_at_call 9; refine (new_any w.heap.size _ xs _ O1.out (by have := HL1.out; omega)).mono ?_; rintro e w2 ⟨gq, b, v, rfl, q1, hgq, hb1, h2⟩; have Q2 := Lib.hid (q1.base H1.out.size); have HGE := Lib.hid (Nat.le_trans H1.out.size hb1); have H2 := Lib.hid (bel H1.out h2); clear q1 hgq hb1 h2 O1 H1)
        | (go_at_call 10; refine (items_any _ xs _ HA1.out (by have := HL1.out; omega)).mono ?_; rintro e w1 ⟨v0, rfl, o1, h1⟩; obtain ⟨A1_, c1_, rfl⟩ := own_slice o1; have O1 := Lib.hid o1; have H1 := Lib.hid h1; clear o1 h1 HA1)
        | (go_at_call 10; refine (items_any _ xs _ (HA2.out.below (below_alloc H3.out (.map #[] 0))) (by have := HL1.out; omega)).mono ?_; rintro e w4 ⟨v4, rfl, o4, h4⟩; obtain ⟨A4, c4, rfl⟩ := own_slice o4; have hbA := below_alloc (Below.refl w3.heap.size w3) (.map #[] 0); have hlf : Left (w3.alloc (.map #[] 0)) w3.heap.size [] := ⟨[], MapAt.make kI vI w3, fun y => by simp [getM]⟩; have OD4 := Lib.hid (show Od w4 w.heap.size gq b v _ w3.heap.size [] _ xs from ⟨(Q3.out.below hbA).below h4, hlf.below h4, own_base o4 (by have := H3.out.size; simp; omega), fun k k1 k2 => by have h5 := (own_lt Q3.out.pv.row k k1).2; have h6 := (own_lt o4 k k2).1; simp at h6; omega⟩); have H4 := Lib.hid (bel (below_alloc H3.out (.map #[] 0)) h4); have HM3 := Lib.hid H3.out.size; clear o4 h4 hbA hlf Q3 H3 HA2)
        | (go_at_call 10; refine (items_any _ ys _ (HY1.out.below H4.out) (by have := HL2.out; omega)).mono ?_; rintro e w5 ⟨v5, rfl, o5, h5⟩; obtain ⟨A5, c5, rfl⟩ := own_slice o5; have OD5 := OD4.out.below h5; have OD6 := Lib.hid OD5; obtain ⟨v6, w6, a1, o6, g6, t6⟩ := app_rowsI Try.underlying27 OD5.row (RowI.own o5) (nz_own o5) (Nat.le_trans H4.out.size h5.size) (by have := HL1.out; omega) (by have := HL2.out; omega); have H5 := Lib.hid ((bel H4.out h5).grown g6 (Nat.le_trans H4.out.size h5.size) (fun k hk => (own_lt OD5.row k hk).1)); have A1 := Lib.hid a1; rw [← HALL.out] at o6; obtain ⟨A6, c6, rfl⟩ := own_slice o6; have OD7 := Lib.hid (OD5.grown g6 o6 t6); clear OD5 OD6 a1 o6 g6 t6 h5 o5 HY1))
      obtain ⟨L, hL⟩ : ∃ L, L = al.length := ⟨_, rfl⟩
      have HL := Lib.hid hL
      have hL6 : L ≤ 600 := by rw [hL, HALL.out]; have := HL1.out; have := HL2.out; simp; omega
      obtain ⟨m, hm⟩ : ∃ m, m = w3.heap.size := ⟨_, rfl⟩
      have od7 := OD7.out
      rw [← hm] at od7 ⊢
      rw [← hL] at od7 ⊢
      have OD := Lib.hid od7
      have HM := Lib.hid (show w.heap.size ≤ m from by rw [hm]; exact HM3.out)
      clear hL hm od7 OD7
      go_loopw [8] (fun n wr => ∃ (i : Nat), n = .int .i64 i ∧ i ≤ L ∧ Hid (Od wr w.heap.size gq b v (initL (xs.length / 2) xs) m (al.take i) (.slice A6 L c6) al) ∧ Hid (Below w.heap.size w wr)) (fun n _ => L - (intOf n).toNat)
      case atStart => exact ⟨0, rfl, by omega, OD, H5⟩
      case round =>
        obtain ⟨i, rfl, hi, HO, HB⟩ := hrel
        by_cases q : i < L
        · obtain ⟨x, hx⟩ : ∃ x, al[i]? = some x := ⟨_, List.getElem?_eq_getElem (by rw [← HL.out]; omega)⟩
          have hrow := HO.out.row
          rw [← HL.out] at hrow
          obtain ⟨g6, rfl, _⟩ := own_some hrow (by omega)
          have HXI := Lib.hid hx
          have q3 : (i : Int) < (L : Int) := by omega
          have hcl : (al.take i).count x ≤ 600 := Nat.le_trans List.count_le_length (by simp; omega)
          have hw : IntKind.i64.wrap (((al.take i).count x : Int) + 1) = ((al.take i).count x : Int) + 1 := IntWalk.i64_in _ (by omega)
          clear hx hrow
          go_wp2
          refine run_region (fn := Try.f5) (id := 11) (n := 13) [12] (LO w.heap.size m (.slice (some ⟨g6, 0, none⟩) L c6) al (al.take i)) Gr (by kernel_rfl) (by kernel_rfl) (by kernel_rfl) (by kernel_rfl) Gr.refl (fun _ _ _ => Gr.trans) (fun _ _ h k => h.up k) ?_
          intro Q' hQ' hX
          have hI : (LO w.heap.size m (.slice (some ⟨g6, 0, none⟩) L c6) al (al.take i)) _ := (show LO w.heap.size m (.slice (some ⟨g6, 0, none⟩) L c6) al (al.take i) wr.drew from ⟨own_drew HO.out.row, HO.out.left.below (Below.refl _ _).drew⟩)
          (try simp only [Act.put, List.setIfInBounds_toArray, List.set_cons_zero, List.set_cons_succ])
          have HO1 := Lib.hid (HO.out.below (show Below wr.heap.size wr wr.drew from (Below.refl _ _).drew))
          refine c_val hX (v := ?_) 0 ({ dst := some 46, op := Go.Op.move (Go.Operand.tmp 6), type := 51, pos := "law.go:151", after := #[], guard := none }) hI (by kernel_rfl) (by kernel_rfl) rfl ?_ ?_
          rotate_left
          · intro bA hb W hI KR hKR
            have e6 := hb 6
            simp only [List.getElem?_toArray, List.getElem?_cons_succ, List.getElem?_cons_zero] at e6
            clear hb
            go_simp
            exact hKR _ (Gr.refl _)
          (try simp only [Act.put, List.setIfInBounds_toArray, List.set_cons_zero, List.set_cons_succ])
          refine c_val hX (v := ?_) 1 ({ dst := some 47, op := Go.Op.move (Go.Operand.tmp 7), type := 27, pos := "law.go:151", after := #[], guard := none }) hI (by kernel_rfl) (by kernel_rfl) rfl ?_ ?_
          rotate_left
          · intro bA hb W hI KR hKR
            have e7 := hb 7
            simp only [List.getElem?_toArray, List.getElem?_cons_succ, List.getElem?_cons_zero] at e7
            clear hb
            go_simp
            exact hKR _ (Gr.refl _)
          (try simp only [Act.put, List.setIfInBounds_toArray, List.set_cons_zero, List.set_cons_succ])
          refine c_val hX (v := ?_) 2 ({ dst := some 48, op := Go.Op.move (Go.Operand.tmp 8), type := 3, pos := "law.go:151", after := #[], guard := none }) hI (by kernel_rfl) (by kernel_rfl) rfl ?_ ?_
          rotate_left
          · intro bA hb W hI KR hKR
            have e8 := hb 8
            simp only [List.getElem?_toArray, List.getElem?_cons_succ, List.getElem?_cons_zero] at e8
            clear hb
            go_simp
            exact hKR _ (Gr.refl _)
          (try simp only [Act.put, List.setIfInBounds_toArray, List.set_cons_zero, List.set_cons_succ])
          refine c_val hX (v := ?_) 3 ({ dst := some 49, op := Go.Op.indexAddr 27 (Go.Operand.tmp 47) (Go.Operand.tmp 48), type := 0, pos := "law.go:151", after := #[{ on := 1, ground := Go.Ground.data }, { on := 2, ground := Go.Ground.data }], guard := none }) hI (by kernel_rfl) (by kernel_rfl) rfl ?_ ?_
          rotate_left
          · intro bA hb W hI KR hKR
            have e47 := hb 47
            have e48 := hb 48
            simp only [List.getElem?_toArray, List.getElem?_cons_succ, List.getElem?_cons_zero] at e47 e48
            clear hb
            go_simp
            exact hKR _ (Gr.refl _)
          (try simp only [Act.put, List.setIfInBounds_toArray, List.set_cons_zero, List.set_cons_succ])
          refine c_val hX (v := ?_) 4 ({ dst := some 50, op := Go.Op.load 40 (Go.Operand.tmp 49), type := 40, pos := "law.go:151", after := #[{ on := 3, ground := Go.Ground.data }], guard := none }) hI (by kernel_rfl) (by kernel_rfl) rfl ?_ ?_
          rotate_left
          · intro bA hb W hI KR hKR
            have e49 := hb 49
            simp only [List.getElem?_toArray, List.getElem?_cons_succ, List.getElem?_cons_zero] at e49
            clear hb
            refine wp_load_mid 40 (.tmp 49) rfl (g6) (i * 3) (ev_tmp e49) (IS x).toList _ (rowL hI.1 HL.out HXI.out) Try.underlying40 rfl (info40 _) ?_
            exact hKR _ (hX.refl _)
          (try simp only [Act.put, List.setIfInBounds_toArray, List.set_cons_zero, List.set_cons_succ])
          refine c_val hX (v := ?_) 5 ({ dst := some 51, op := Go.Op.move (Go.Operand.tmp 6), type := 51, pos := "law.go:151", after := #[], guard := none }) hI (by kernel_rfl) (by kernel_rfl) rfl ?_ ?_
          rotate_left
          · intro bA hb W hI KR hKR
            have e6 := hb 6
            simp only [List.getElem?_toArray, List.getElem?_cons_succ, List.getElem?_cons_zero] at e6
            clear hb
            go_simp
            exact hKR _ (Gr.refl _)
          (try simp only [Act.put, List.setIfInBounds_toArray, List.set_cons_zero, List.set_cons_succ])
          refine c_val hX (v := ?_) 6 ({ dst := some 52, op := Go.Op.move (Go.Operand.tmp 7), type := 27, pos := "law.go:151", after := #[], guard := none }) hI (by kernel_rfl) (by kernel_rfl) rfl ?_ ?_
          rotate_left
          · intro bA hb W hI KR hKR
            have e7 := hb 7
            simp only [List.getElem?_toArray, List.getElem?_cons_succ, List.getElem?_cons_zero] at e7
            clear hb
            go_simp
            exact hKR _ (Gr.refl _)
          (try simp only [Act.put, List.setIfInBounds_toArray, List.set_cons_zero, List.set_cons_succ])
          refine c_val hX (v := ?_) 7 ({ dst := some 53, op := Go.Op.move (Go.Operand.tmp 8), type := 3, pos := "law.go:151", after := #[], guard := none }) hI (by kernel_rfl) (by kernel_rfl) rfl ?_ ?_
          rotate_left
          · intro bA hb W hI KR hKR
            have e8 := hb 8
            simp only [List.getElem?_toArray, List.getElem?_cons_succ, List.getElem?_cons_zero] at e8
            clear hb
            go_simp
            exact hKR _ (Gr.refl _)
          (try simp only [Act.put, List.setIfInBounds_toArray, List.set_cons_zero, List.set_cons_succ])
          refine c_val hX (v := ?_) 8 ({ dst := some 54, op := Go.Op.indexAddr 27 (Go.Operand.tmp 52) (Go.Operand.tmp 53), type := 0, pos := "law.go:151", after := #[{ on := 6, ground := Go.Ground.data }, { on := 7, ground := Go.Ground.data }], guard := none }) hI (by kernel_rfl) (by kernel_rfl) rfl ?_ ?_
          rotate_left
          · intro bA hb W hI KR hKR
            have e52 := hb 52
            have e53 := hb 53
            simp only [List.getElem?_toArray, List.getElem?_cons_succ, List.getElem?_cons_zero] at e52 e53
            clear hb
            go_simp
            exact hKR _ (Gr.refl _)
          (try simp only [Act.put, List.setIfInBounds_toArray, List.set_cons_zero, List.set_cons_succ])
          refine c_val hX (v := ?_) 9 ({ dst := some 55, op := Go.Op.load 40 (Go.Operand.tmp 54), type := 40, pos := "law.go:151", after := #[{ on := 8, ground := Go.Ground.data }], guard := none }) hI (by kernel_rfl) (by kernel_rfl) rfl ?_ ?_
          rotate_left
          · intro bA hb W hI KR hKR
            have e54 := hb 54
            simp only [List.getElem?_toArray, List.getElem?_cons_succ, List.getElem?_cons_zero] at e54
            clear hb
            refine wp_load_mid 40 (.tmp 54) rfl (g6) (i * 3) (ev_tmp e54) (IS x).toList _ (rowL hI.1 HL.out HXI.out) Try.underlying40 rfl (info40 _) ?_
            exact hKR _ (hX.refl _)
          (try simp only [Act.put, List.setIfInBounds_toArray, List.set_cons_zero, List.set_cons_succ])
          refine c_val hX (v := ?_) 10 ({ dst := some 56, op := Go.Op.lookup 51 (Go.Operand.tmp 51) (Go.Operand.tmp 55) false, type := 3, pos := "law.go:151", after := #[{ on := 5, ground := Go.Ground.data }, { on := 9, ground := Go.Ground.data }], guard := none }) hI (by kernel_rfl) (by kernel_rfl) rfl ?_ ?_
          rotate_left
          · intro bA hb W hI KR hKR
            have e51 := hb 51
            have e55 := hb 55
            simp only [List.getElem?_toArray, List.getElem?_cons_succ, List.getElem?_cons_zero] at e51 e55
            clear hb
            refine wp_run (exec_lookup rfl (ev_tmp e51) (ev_tmp e55) (hI.2.get x)) ?_
            exact hKR _ (hX.refl _)
          (try simp only [Act.put, List.setIfInBounds_toArray, List.set_cons_zero, List.set_cons_succ])
          refine c_val hX (v := ?_) 11 ({ dst := some 57, op := Go.Op.binOp Go.BinOp.add 3 (Go.Operand.tmp 56) (Go.Operand.const (Go.Value.int Go.IntKind.i64 1)) 3, type := 3, pos := "law.go:151", after := #[{ on := 10, ground := Go.Ground.data }], guard := none }) hI (by kernel_rfl) (by kernel_rfl) rfl ?_ ?_
          rotate_left
          · intro bA hb W hI KR hKR
            have e56 := hb 56
            simp only [List.getElem?_toArray, List.getElem?_cons_succ, List.getElem?_cons_zero] at e56
            clear hb
            go_simp
            exact hKR _ (Gr.refl _)
          (try simp only [Act.put, List.setIfInBounds_toArray, List.set_cons_zero, List.set_cons_succ])
          refine c_late 12 ({ dst := none, op := Go.Op.mapUpdate 51 (Go.Operand.tmp 46) (Go.Operand.tmp 50) (Go.Operand.tmp 57), type := 0, pos := "law.go:151", after := #[{ on := 0, ground := Go.Ground.data }, { on := 4, ground := Go.Ground.data }, { on := 11, ground := Go.Ground.data }, { on := 0, ground := Go.Ground.phase }, { on := 1, ground := Go.Ground.phase }, { on := 2, ground := Go.Ground.phase }, { on := 3, ground := Go.Ground.phase }, { on := 4, ground := Go.Ground.phase }, { on := 5, ground := Go.Ground.phase }, { on := 6, ground := Go.Ground.phase }, { on := 7, ground := Go.Ground.phase }, { on := 8, ground := Go.Ground.phase }, { on := 9, ground := Go.Ground.phase }, { on := 10, ground := Go.Ground.phase }, { on := 11, ground := Go.Ground.phase }], guard := none }) (by kernel_rfl) (by kernel_rfl) (by kernel_rfl) (by kernel_rfl) rfl ?_
          intro bA hb W hW KR hKR
          have e46 := hb 46
          have e50 := hb 50
          have e57 := hb 57
          simp only [List.getElem?_toArray, List.getElem?_cons_succ, List.getElem?_cons_zero] at e46 e50 e57
          clear hb
          have hIW := hX.keep hI hW
          clear hI
          replace HO1 := Lib.hid (HO1.out.below hW)
          obtain ⟨W9, r9, l9, t9⟩ := hIW.2.put (ys := al.take (i + 1)) x (((al.take i).count x : Int) + 1) (by rw [(count_next HXI.out).1]; rfl) (count_next HXI.out).2
          refine wp_mapUpdate rfl (ev_tmp e46) (ev_tmp e50) (ev_tmp e57) r9 ?_
          refine hKR undef _ ?_
          have HB9 := Lib.hid (t9.bel _ _ (HM.out) (bel HB.out (bel (Below.refl _ _).drew hW)))
          replace HO1 := Lib.hid (HO1.out.turn t9 l9)
          clear r9 l9 t9
          (try clear hW)
          (try clear hIW)
          (try simp only [Act.put, List.setIfInBounds_toArray, List.set_cons_zero, List.set_cons_succ])
          refine c_done (by kernel_rfl) ?_
          intro w9 hW
          refine hQ' _ _ ?_
          clear hQ' hX
          replace HO1 := Lib.hid (HO1.out.below hW)
          replace HB9 := Lib.hid (bel HB9.out hW)
          clear hW
          go_wp2
          go_roundw
          case rel => exact ⟨i + 1, by go_num, by omega, HO1, HB9⟩
          case measure =>
            simp [intOf]
            omega
        · obtain rfl : L = i := by omega
          have hall : al.take L = al := List.take_of_length_le (by rw [← HL.out]; exact Nat.le_refl _)
          have ho := HO.out
          rw [hall] at ho
          have HO2 := Lib.hid ho
          clear ho hall HO
          go_wp2
          go_loopw [9] (fun n wr => ∃ (j : Nat) (v : Value) (qs : List It), n = .int .i64 j ∧ j ≤ N2 ∧ Hid (Od wr w.heap.size gq b v qs m al (.slice A6 L c6) al) ∧ Hid (Heap qs ∧ (∀ y, qs.count y = (xs ++ ys.take j).count y) ∧ qs.length = xs.length + j) ∧ Hid (Below w.heap.size w wr)) (fun n _ => N2 - (intOf n).toNat)
          case atStart => exact ⟨0, _, _, rfl, by omega, HO2, Lib.hid ⟨init_heap xs, fun y => by rw [init_count]; simp, by rw [initL_len]; rfl⟩, HB⟩
          case round =>
            obtain ⟨j, v, qs, rfl, hj, HO, HS, HB⟩ := hrel
            by_cases q : j < N2
            · obtain ⟨y, hy⟩ : ∃ y, ys[j]? = some y := ⟨_, List.getElem?_eq_getElem (by rw [← HN2.out]; omega)⟩
              have HYJ := Lib.hid hy
              have q3 : (j : Int) < (N2 : Int) := by omega
              have hjl : j < ys.length := by rw [← HN2.out]; exact q
              have hyl : 0 < ys.length := by omega
              clear hy
              go_wp2_with (first
                | (go_at_call 14; refine (num_is _ _).mono ?_; rintro e w9 ⟨rfl, rfl⟩)
                | (refine wpList_load_mid rfl 40 (.tmp 68) rfl g7 (j * 3) rfl (IS y).toList _ HR7.out Try.underlying40 rfl (info40 y) ?_)
                | (go_at_call 15; refine (q_push w.heap.size gq b v qs y _ HO7.out.q HB7.out.size (by have := HS.out.2.2; have := HL1.out; have := HL2.out; omega)).mono ?_; rintro e w8 ⟨rfl, v8, hq8, hp8⟩; have HO8 := Lib.hid (HO7.out.pq hq8 hp8); have HB8 := Lib.hid (hp8.bel _ _ (Nat.le_refl _) HGE.out HB7.out); clear hq8 hp8)
                | (go_at_call 10; refine (items_any _ ys _ (HY2.out.below HB.out) (by have := HL2.out; omega)).mono ?_; rintro e w7 ⟨v7, rfl, o7, h7⟩; obtain ⟨A7, c7, rfl⟩ := own_slice o7; obtain ⟨g7, rfl, _⟩ := own_some o7 hyl; have HR7 := Lib.hid (row_range o7 HYJ.out); have HO7 := Lib.hid (HO.out.below h7); have HB7 := Lib.hid (bel HB.out h7); clear o7 h7))
              go_roundw
              case rel =>
                refine ⟨j + 1, _, _, by go_num, by omega, HO8, Lib.hid ⟨push_heap HS.out.1 y, fun z => ?_, by simp [pushL, upL_len, HS.out.2.2]; omega⟩, HB8⟩
                have h1 := HS.out.2.1 z
                rw [push_count, List.count_append, h1, List.count_append, List.count_append, List.take_succ_eq_append_getElem (List.getElem?_eq_some_iff.1 HYJ.out).1, (List.getElem?_eq_some_iff.1 HYJ.out).2, List.count_append]
                omega
              case measure =>
                simp [intOf]
                omega
            · obtain rfl : N2 = j := by omega
              have hcnt : ∀ y, qs.count y = al.count y := fun y => by
                rw [HS.out.2.1 y, HALL.out, List.take_of_length_le (by rw [← HN2.out]; exact Nat.le_refl _)]
              have hql : qs.length = L := by rw [HS.out.2.2, HL.out, HALL.out, List.length_append, ← HN2.out]
              have HQL := Lib.hid hql
              have HO3 := Lib.hid (HO.out.recount (fun y => (hcnt y).symm))
              clear hcnt hql
              go_wp2
              obtain ⟨W10, hW10⟩ : ∃ W10, W10 = wr.alloc (Obj.cells #[.int .i64 0, .int .i64 0, .int .i64 0] 40) := ⟨_, rfl⟩
              have hb10 : Below wr.heap.size wr W10 := by rw [hW10]; exact below_alloc (Below.refl _ _) _
              obtain ⟨g10, hg10⟩ : ∃ g10, g10 = wr.heap.size := ⟨_, rfl⟩
              have hz10 : W10.heap[g10]? = some (.cells (IS I0) 40 (0, 0)) := by rw [hW10, hg10]; exact heap_alloc_new wr _
              have HVA := Lib.hid (show ∀ k, (Value.slice A6 L c6).ownBlock = some k → k ≠ g10 from fun k hk => by have := (own_lt HO3.out.row k hk).2; omega)
              have HVQ := Lib.hid (show ∀ k, v.ownBlock = some k → k ≠ g10 from fun k hk => by have := (own_lt HO3.out.q.pv.row k hk).2; omega)
              have HG10 := Lib.hid (show w.heap.size ≤ g10 from by rw [hg10]; exact HB.out.size)
              have HO4 := Lib.hid (HO3.out.below hb10)
              have HB4 := Lib.hid (bel HB.out hb10)
              have HZ10 := Lib.hid hz10
              have HS4 := Lib.hid HS.out.1
              rw [← hW10, ← hg10]
              clear hW10 hb10 hg10 hz10 HO HO3 HB HS
              go_loopw [11] (fun n wr => ∃ (i : Nat) (v : Value) (qs : List It) (last : It), n = .int .i64 i ∧ i ≤ L ∧ Hid (Od wr w.heap.size gq b v qs m qs (.slice A6 L c6) al) ∧ Hid (Heap qs ∧ qs.length + i = L) ∧ Hid (wr.heap[g10]? = some (.cells (IS last) 40 (0, 0)) ∧ (∀ k, v.ownBlock = some k → k ≠ g10) ∧ (0 < i → ∀ y ∈ qs, le last y)) ∧ Hid (Below w.heap.size w wr)) (fun n _ => L - (intOf n).toNat)
              case atStart => exact ⟨0, v, qs, I0, rfl, by omega, HO4, Lib.hid ⟨HS4.out, HQL.out⟩, Lib.hid ⟨HZ10.out, HVQ.out, fun h => absurd h (Nat.lt_irrefl 0)⟩, HB4⟩
              case round =>
                obtain ⟨i, v, qs, last, rfl, hi, HO, HS, HG, HB⟩ := hrel
                by_cases q : i < L
                · have h0 : 0 < qs.length := by have := HS.out.2; omega
                  have H0 := Lib.hid h0
                  obtain ⟨y0, hy0⟩ : ∃ y0, at_ qs 0 = y0 := ⟨_, rfl⟩
                  have HY0 := Lib.hid hy0
                  have hmem : y0 ∈ qs := by rw [← hy0]; exact List.mem_of_getElem? (at_get h0)
                  obtain ⟨c, hc⟩ : ∃ c, qs.count y0 = c := ⟨_, rfl⟩
                  have HC := Lib.hid hc
                  have hc1 : 1 ≤ c := by rw [← hc]; exact List.count_pos_iff.2 hmem
                  have hc2 : ¬ ((c : Int) < 1) := by omega
                  have hc3 : c ≤ 600 := by rw [← hc]; exact Nat.le_trans List.count_le_length (by have := HS.out.2; omega)
                  have hw : IntKind.i64.wrap ((c : Int) - 1) = (c : Int) - 1 := IntWalk.i64_in _ (by omega)
                  have HPC := Lib.hid (show ∀ y, (popL qs).count y + (if y0 = y then 1 else 0) = qs.count y from fun y => by rw [← hy0]; exact pop_count h0 y)
                  have HMN := Lib.hid (show ∀ y ∈ popL qs, le y0 y from fun y hy => by rw [← hy0]; exact root_mem HS.out.1 y ((pop_mem h0 y).2 (.inr hy)))
                  have q3 : (i : Int) < (L : Int) := by omega
                  have hqlen : qs.length ≤ 2000000 := by have := HS.out.2; omega
                  have HQLn := Lib.hid hqlen
                  have HMM := Lib.hid hmem
                  clear h0 hy0 hc hmem hqlen
                  by_cases i0 : i = 0
                  · subst i0
                    go_wp2_with (first
                      | (go_at_call 12; refine (q_pop w.heap.size gq b v qs _ HO.out.q HB.out.size H0.out HQLn.out).mono ?_; rintro e w1 ⟨rfl, v1, hq1, hp1⟩; rw [HY0.out]; have HO1 := Lib.hid (HO.out.pq hq1 hp1); have HG1 := Lib.hid (hp1.stay' HG.out.1 (blk_ne HG.out.1 HO.out.q.pv.blk (by decide)) (fun e => HG.out.2.1 _ e rfl)); have HV1 := Lib.hid (show ∀ k, v1.ownBlock = some k → k ≠ g10 from fun k hk => by rcases hp1.own k hk with q | q; exact HG.out.2.1 k q; have := heap_lt HG.out.1; omega); have HB1 := Lib.hid (hp1.bel _ _ (Nat.le_refl _) HGE.out HB.out); clear hq1 hp1)
                      | (refine wpList_store_whole rfl 40 (.tmp 12) (.tmp 83) rfl w1.heap.size (IS y0) #[.int .i64 0, .int .i64 0, .int .i64 0] 40 rfl rfl (heap_alloc_new w1 _) rfl (info40 _) (by kernel_rfl) ?_; intro w2 hnew hsz hfar hbel; have HX2 := Lib.hid hnew; have hb2 := hbel _ _ (Nat.le_refl _) (below_alloc (Below.refl w1.heap.size w1) _); have HO2 := Lib.hid (HO1.out.below hb2); have HG2 := Lib.hid ((hb2.block _ (heap_lt HG1.out)).trans HG1.out); have HB2 := Lib.hid (bel HB1.out hb2); have hne := heap_lt HG1.out; clear hnew hsz hfar hbel hb2)
                      | (refine wpList_runw (wanted_of (j := 2) (d := 87) rfl rfl rfl) (exec_lookup rfl rfl rfl (HO2.out.left.get y0)) ?_; rw [HC.out])
                      | (refine wpList_load_on (wanted_of (j := 2) (d := 87) rfl rfl rfl) 40 (.tmp 12) rfl w1.heap.size rfl 40 (IS y0) (0, 0) _ HX2.out Try.underlying40 rfl (info40 _) ?_))
                    refine run_region (fn := Try.f5) (id := 24) (n := 7) [6] (LX w1.heap.size y0 m qs) Gr (by kernel_rfl) (by kernel_rfl) (by kernel_rfl) (by kernel_rfl) Gr.refl (fun _ _ _ => Gr.trans) (fun _ _ h k => h.up k) ?_
                    intro Q' hQ' hX
                    have hI : (LX w1.heap.size y0 m qs) _ := (show LX w1.heap.size y0 m qs w2.drew from ⟨HX2.out, HO2.out.left.below (Below.refl _ _).drew⟩)
                    (try simp only [Act.put, List.setIfInBounds_toArray, List.set_cons_zero, List.set_cons_succ])
                    have HO5 := Lib.hid (HO2.out.below (show Below w2.heap.size w2 w2.drew from (Below.refl _ _).drew))
                    refine c_val hX (v := ?_) 0 ({ dst := some 102, op := Go.Op.move (Go.Operand.tmp 6), type := 51, pos := "law.go:164", after := #[], guard := none }) hI (by kernel_rfl) (by kernel_rfl) rfl ?_ ?_
                    rotate_left
                    · intro bA hb W hI KR hKR
                      have e6 := hb 6
                      simp only [List.getElem?_toArray, List.getElem?_cons_succ, List.getElem?_cons_zero] at e6
                      clear hb
                      go_simp
                      exact hKR _ (Gr.refl _)
                    (try simp only [Act.put, List.setIfInBounds_toArray, List.set_cons_zero, List.set_cons_succ])
                    refine c_val hX (v := ?_) 1 ({ dst := some 103, op := Go.Op.load 40 (Go.Operand.tmp 12), type := 40, pos := "law.go:164", after := #[], guard := none }) hI (by kernel_rfl) (by kernel_rfl) rfl ?_ ?_
                    rotate_left
                    · intro bA hb W hI KR hKR
                      have e12 := hb 12
                      simp only [List.getElem?_toArray, List.getElem?_cons_succ, List.getElem?_cons_zero] at e12
                      clear hb
                      refine wp_load_mid 40 (.tmp 12) rfl w1.heap.size 0 (ev_tmp e12) (IS y0).toList _ (range_of_heap hI.1 _ _ (fun j v hv => by simpa using hv)) Try.underlying40 rfl (info40 _) ?_
                      exact hKR _ (hX.refl _)
                    (try simp only [Act.put, List.setIfInBounds_toArray, List.set_cons_zero, List.set_cons_succ])
                    refine c_val hX (v := ?_) 2 ({ dst := some 104, op := Go.Op.move (Go.Operand.tmp 6), type := 51, pos := "law.go:164", after := #[], guard := none }) hI (by kernel_rfl) (by kernel_rfl) rfl ?_ ?_
                    rotate_left
                    · intro bA hb W hI KR hKR
                      have e6 := hb 6
                      simp only [List.getElem?_toArray, List.getElem?_cons_succ, List.getElem?_cons_zero] at e6
                      clear hb
                      go_simp
                      exact hKR _ (Gr.refl _)
                    (try simp only [Act.put, List.setIfInBounds_toArray, List.set_cons_zero, List.set_cons_succ])
                    refine c_val hX (v := ?_) 3 ({ dst := some 105, op := Go.Op.load 40 (Go.Operand.tmp 12), type := 40, pos := "law.go:164", after := #[], guard := none }) hI (by kernel_rfl) (by kernel_rfl) rfl ?_ ?_
                    rotate_left
                    · intro bA hb W hI KR hKR
                      have e12 := hb 12
                      simp only [List.getElem?_toArray, List.getElem?_cons_succ, List.getElem?_cons_zero] at e12
                      clear hb
                      refine wp_load_mid 40 (.tmp 12) rfl w1.heap.size 0 (ev_tmp e12) (IS y0).toList _ (range_of_heap hI.1 _ _ (fun j v hv => by simpa using hv)) Try.underlying40 rfl (info40 _) ?_
                      exact hKR _ (hX.refl _)
                    (try simp only [Act.put, List.setIfInBounds_toArray, List.set_cons_zero, List.set_cons_succ])
                    refine c_val hX (v := ?_) 4 ({ dst := some 106, op := Go.Op.lookup 51 (Go.Operand.tmp 104) (Go.Operand.tmp 105) false, type := 3, pos := "law.go:164", after := #[{ on := 2, ground := Go.Ground.data }, { on := 3, ground := Go.Ground.data }], guard := none }) hI (by kernel_rfl) (by kernel_rfl) rfl ?_ ?_
                    rotate_left
                    · intro bA hb W hI KR hKR
                      have e104 := hb 104
                      have e105 := hb 105
                      simp only [List.getElem?_toArray, List.getElem?_cons_succ, List.getElem?_cons_zero] at e104 e105
                      clear hb
                      refine wp_run (exec_lookup rfl (ev_tmp e104) (ev_tmp e105) (hI.2.get y0)) ?_
                      rw [HC.out]
                      exact hKR _ (hX.refl _)
                    (try simp only [Act.put, List.setIfInBounds_toArray, List.set_cons_zero, List.set_cons_succ])
                    refine c_val hX (v := ?_) 5 ({ dst := some 107, op := Go.Op.binOp Go.BinOp.sub 3 (Go.Operand.tmp 106) (Go.Operand.const (Go.Value.int Go.IntKind.i64 1)) 3, type := 3, pos := "law.go:164", after := #[{ on := 4, ground := Go.Ground.data }], guard := none }) hI (by kernel_rfl) (by kernel_rfl) rfl ?_ ?_
                    rotate_left
                    · intro bA hb W hI KR hKR
                      have e106 := hb 106
                      simp only [List.getElem?_toArray, List.getElem?_cons_succ, List.getElem?_cons_zero] at e106
                      clear hb
                      go_simp
                      exact hKR _ (Gr.refl _)
                    (try simp only [Act.put, List.setIfInBounds_toArray, List.set_cons_zero, List.set_cons_succ])
                    refine c_late 6 ({ dst := none, op := Go.Op.mapUpdate 51 (Go.Operand.tmp 102) (Go.Operand.tmp 103) (Go.Operand.tmp 107), type := 0, pos := "law.go:164", after := #[{ on := 0, ground := Go.Ground.data }, { on := 1, ground := Go.Ground.data }, { on := 5, ground := Go.Ground.data }, { on := 0, ground := Go.Ground.phase }, { on := 1, ground := Go.Ground.phase }, { on := 2, ground := Go.Ground.phase }, { on := 3, ground := Go.Ground.phase }, { on := 4, ground := Go.Ground.phase }, { on := 5, ground := Go.Ground.phase }], guard := none }) (by kernel_rfl) (by kernel_rfl) (by kernel_rfl) (by kernel_rfl) rfl ?_
                    intro bA hb W hW KR hKR
                    have e102 := hb 102
                    have e103 := hb 103
                    have e107 := hb 107
                    simp only [List.getElem?_toArray, List.getElem?_cons_succ, List.getElem?_cons_zero] at e102 e103 e107
                    clear hb
                    have hIW := hX.keep hI hW
                    clear hI
                    replace HO5 := Lib.hid (HO5.out.below hW)
                    obtain ⟨W9, r9, l9, t9⟩ := hIW.2.put (ys := popL qs) y0 ((c : Int) - 1) (by have h5 := HPC.out y0; rw [if_pos rfl, HC.out] at h5; omega) (fun y hy => by have h5 := HPC.out y; rw [if_neg (Ne.symm hy)] at h5; omega)
                    have hm9 := hIW.2.ne hIW.1
                    have hg9 := (bel (Below.refl w2.heap.size w2).drew hW).block _ (heap_lt HG2.out)
                    have hG9 := hg9.trans HG2.out
                    have hmg := hIW.2.ne hG9
                    refine wp_mapUpdate rfl (ev_tmp e102) (ev_tmp e103) (ev_tmp e107) r9 ?_
                    refine hKR undef _ ?_
                    have HB9 := Lib.hid (t9.bel _ _ HM.out (bel HB2.out (bel (Below.refl w2.heap.size w2).drew hW)))
                    replace HO5 := Lib.hid (HO5.out.turn t9 l9)
                    have HX9 := Lib.hid ((t9.far _ hm9).trans hIW.1)
                    have HG9 := Lib.hid ((t9.far _ hmg).trans hG9)
                    clear r9 l9 t9 hm9 hg9 hG9 hmg
                    (try clear hW)
                    (try clear hIW)
                    (try simp only [Act.put, List.setIfInBounds_toArray, List.set_cons_zero, List.set_cons_succ])
                    refine c_done (by kernel_rfl) ?_
                    intro w9 hW
                    refine hQ' _ _ ?_
                    clear hQ' hX
                    replace HO5 := Lib.hid (HO5.out.below hW)
                    replace HB9 := Lib.hid (bel HB9.out hW)
                    replace HX9 := Lib.hid ((hW.block _ (heap_lt HX9.out)).trans HX9.out)
                    replace HG9 := Lib.hid ((hW.block _ (heap_lt HG9.out)).trans HG9.out)
                    clear hW
                    go_wp2_with (first
                      | (refine wpList_load_on (by rfl) 40 (.tmp 12) rfl w1.heap.size rfl 40 (IS y0) (0, 0) _ HX9.out Try.underlying40 rfl (info40 _) ?_)
                      | (refine wpList_store_whole rfl 40 (.tmp 10) (.tmp 108) rfl g10 (IS y0) (IS last) 40 rfl rfl HG9.out rfl (info40 _) (by kernel_rfl) ?_; intro w11 hnew hsz hfar hbel; have hr := (show Rw g10 w9 w11 from ⟨hsz, hfar, hbel⟩); have HO6 := Lib.hid (HO5.out.rw hr HG9.out HV1.out HVA.out); have HB6 := Lib.hid (hbel _ _ HG10.out HB9.out); have HG6 := Lib.hid hnew; clear hnew hsz hfar hbel hr))
                    go_roundw
                    case rel => exact ⟨1, _, _, y0, by go_num, by omega, HO6, Lib.hid ⟨pop_heap HS.out.1, by rw [popL_len]; have := HS.out.2; have := H0.out; omega⟩, Lib.hid ⟨HG6.out, HV1.out, fun _ => HMN.out⟩, HB6⟩
                    case measure =>
                      simp [intOf]
                      omega
                  · have i1 : (0 : Int) < (i : Int) := by omega
                    have i2 : 0 < i := by omega
                    have HBF := Lib.hid (show befB y0 last = false from HG.out.2.2 (by omega) y0 HMM.out)
                    go_wp2_with (first
                      | (go_at_call 12; refine (q_pop w.heap.size gq b v qs _ HO.out.q HB.out.size H0.out HQLn.out).mono ?_; rintro e w1 ⟨rfl, v1, hq1, hp1⟩; rw [HY0.out]; have HO1 := Lib.hid (HO.out.pq hq1 hp1); have HG1 := Lib.hid (hp1.stay' HG.out.1 (blk_ne HG.out.1 HO.out.q.pv.blk (by decide)) (fun e => HG.out.2.1 _ e rfl)); have HV1 := Lib.hid (show ∀ k, v1.ownBlock = some k → k ≠ g10 from fun k hk => by rcases hp1.own k hk with q | q; exact HG.out.2.1 k q; have := heap_lt HG.out.1; omega); have HB1 := Lib.hid (hp1.bel _ _ (Nat.le_refl _) HGE.out HB.out); clear hq1 hp1)
                      | (refine wpList_store_whole rfl 40 (.tmp 12) (.tmp 83) rfl w1.heap.size (IS y0) #[.int .i64 0, .int .i64 0, .int .i64 0] 40 rfl rfl (heap_alloc_new w1 _) rfl (info40 _) (by kernel_rfl) ?_; intro w2 hnew hsz hfar hbel; have HX2 := Lib.hid hnew; have hb2 := hbel _ _ (Nat.le_refl _) (below_alloc (Below.refl w1.heap.size w1) _); have HO2 := Lib.hid (HO1.out.below hb2); have HG2 := Lib.hid ((hb2.block _ (heap_lt HG1.out)).trans HG1.out); have HB2 := Lib.hid (bel HB1.out hb2); have hne := heap_lt HG1.out; clear hnew hsz hfar hbel hb2)
                      | (go_at_call 17; refine (bef_any y0 last _).mono ?_; rintro e w3 ⟨rfl, h3⟩; rw [HBF.out]; have HX3 := Lib.hid ((h3.block _ (heap_lt HX2.out)).trans HX2.out); have HG3 := Lib.hid ((h3.block _ (heap_lt HG2.out)).trans HG2.out); have HO3 := Lib.hid (HO2.out.below h3); have HB3 := Lib.hid (bel HB2.out h3); clear h3)
                      | (refine wpList_runw (wanted_of (j := 2) (d := 87) rfl rfl rfl) (exec_lookup rfl rfl rfl (HO2.out.left.get y0)) ?_; rw [HC.out])
                      | (refine wpList_load_on (wanted_of (j := 11) (d := 96) rfl rfl rfl) 40 (.tmp 10) rfl g10 rfl 40 (IS last) (0, 0) _ HG2.out Try.underlying40 rfl (info40 _) ?_)
                      | (refine wpList_load_on (by first | exact wanted_of (j := 2) (d := 87) rfl rfl rfl | exact wanted_of (j := 11) (d := 96) rfl rfl rfl) 40 (.tmp 12) rfl w1.heap.size rfl 40 (IS y0) (0, 0) _ HX2.out Try.underlying40 rfl (info40 _) ?_))
                    refine run_region (fn := Try.f5) (id := 24) (n := 7) [6] (LX w1.heap.size y0 m qs) Gr (by kernel_rfl) (by kernel_rfl) (by kernel_rfl) (by kernel_rfl) Gr.refl (fun _ _ _ => Gr.trans) (fun _ _ h k => h.up k) ?_
                    intro Q' hQ' hX
                    have hI : (LX w1.heap.size y0 m qs) _ := (show LX w1.heap.size y0 m qs w3.drew from ⟨HX3.out, HO3.out.left.below (Below.refl _ _).drew⟩)
                    (try simp only [Act.put, List.setIfInBounds_toArray, List.set_cons_zero, List.set_cons_succ])
                    have HO5 := Lib.hid (HO3.out.below (show Below w3.heap.size w3 w3.drew from (Below.refl _ _).drew))
                    refine c_val hX (v := ?_) 0 ({ dst := some 102, op := Go.Op.move (Go.Operand.tmp 6), type := 51, pos := "law.go:164", after := #[], guard := none }) hI (by kernel_rfl) (by kernel_rfl) rfl ?_ ?_
                    rotate_left
                    · intro bA hb W hI KR hKR
                      have e6 := hb 6
                      simp only [List.getElem?_toArray, List.getElem?_cons_succ, List.getElem?_cons_zero] at e6
                      clear hb
                      go_simp
                      exact hKR _ (Gr.refl _)
                    (try simp only [Act.put, List.setIfInBounds_toArray, List.set_cons_zero, List.set_cons_succ])
                    refine c_val hX (v := ?_) 1 ({ dst := some 103, op := Go.Op.load 40 (Go.Operand.tmp 12), type := 40, pos := "law.go:164", after := #[], guard := none }) hI (by kernel_rfl) (by kernel_rfl) rfl ?_ ?_
                    rotate_left
                    · intro bA hb W hI KR hKR
                      have e12 := hb 12
                      simp only [List.getElem?_toArray, List.getElem?_cons_succ, List.getElem?_cons_zero] at e12
                      clear hb
                      refine wp_load_mid 40 (.tmp 12) rfl w1.heap.size 0 (ev_tmp e12) (IS y0).toList _ (range_of_heap hI.1 _ _ (fun j v hv => by simpa using hv)) Try.underlying40 rfl (info40 _) ?_
                      exact hKR _ (hX.refl _)
                    (try simp only [Act.put, List.setIfInBounds_toArray, List.set_cons_zero, List.set_cons_succ])
                    refine c_val hX (v := ?_) 2 ({ dst := some 104, op := Go.Op.move (Go.Operand.tmp 6), type := 51, pos := "law.go:164", after := #[], guard := none }) hI (by kernel_rfl) (by kernel_rfl) rfl ?_ ?_
                    rotate_left
                    · intro bA hb W hI KR hKR
                      have e6 := hb 6
                      simp only [List.getElem?_toArray, List.getElem?_cons_succ, List.getElem?_cons_zero] at e6
                      clear hb
                      go_simp
                      exact hKR _ (Gr.refl _)
                    (try simp only [Act.put, List.setIfInBounds_toArray, List.set_cons_zero, List.set_cons_succ])
                    refine c_val hX (v := ?_) 3 ({ dst := some 105, op := Go.Op.load 40 (Go.Operand.tmp 12), type := 40, pos := "law.go:164", after := #[], guard := none }) hI (by kernel_rfl) (by kernel_rfl) rfl ?_ ?_
                    rotate_left
                    · intro bA hb W hI KR hKR
                      have e12 := hb 12
                      simp only [List.getElem?_toArray, List.getElem?_cons_succ, List.getElem?_cons_zero] at e12
                      clear hb
                      refine wp_load_mid 40 (.tmp 12) rfl w1.heap.size 0 (ev_tmp e12) (IS y0).toList _ (range_of_heap hI.1 _ _ (fun j v hv => by simpa using hv)) Try.underlying40 rfl (info40 _) ?_
                      exact hKR _ (hX.refl _)
                    (try simp only [Act.put, List.setIfInBounds_toArray, List.set_cons_zero, List.set_cons_succ])
                    refine c_val hX (v := ?_) 4 ({ dst := some 106, op := Go.Op.lookup 51 (Go.Operand.tmp 104) (Go.Operand.tmp 105) false, type := 3, pos := "law.go:164", after := #[{ on := 2, ground := Go.Ground.data }, { on := 3, ground := Go.Ground.data }], guard := none }) hI (by kernel_rfl) (by kernel_rfl) rfl ?_ ?_
                    rotate_left
                    · intro bA hb W hI KR hKR
                      have e104 := hb 104
                      have e105 := hb 105
                      simp only [List.getElem?_toArray, List.getElem?_cons_succ, List.getElem?_cons_zero] at e104 e105
                      clear hb
                      refine wp_run (exec_lookup rfl (ev_tmp e104) (ev_tmp e105) (hI.2.get y0)) ?_
                      rw [HC.out]
                      exact hKR _ (hX.refl _)
                    (try simp only [Act.put, List.setIfInBounds_toArray, List.set_cons_zero, List.set_cons_succ])
                    refine c_val hX (v := ?_) 5 ({ dst := some 107, op := Go.Op.binOp Go.BinOp.sub 3 (Go.Operand.tmp 106) (Go.Operand.const (Go.Value.int Go.IntKind.i64 1)) 3, type := 3, pos := "law.go:164", after := #[{ on := 4, ground := Go.Ground.data }], guard := none }) hI (by kernel_rfl) (by kernel_rfl) rfl ?_ ?_
                    rotate_left
                    · intro bA hb W hI KR hKR
                      have e106 := hb 106
                      simp only [List.getElem?_toArray, List.getElem?_cons_succ, List.getElem?_cons_zero] at e106
                      clear hb
                      go_simp
                      exact hKR _ (Gr.refl _)
                    (try simp only [Act.put, List.setIfInBounds_toArray, List.set_cons_zero, List.set_cons_succ])
                    refine c_late 6 ({ dst := none, op := Go.Op.mapUpdate 51 (Go.Operand.tmp 102) (Go.Operand.tmp 103) (Go.Operand.tmp 107), type := 0, pos := "law.go:164", after := #[{ on := 0, ground := Go.Ground.data }, { on := 1, ground := Go.Ground.data }, { on := 5, ground := Go.Ground.data }, { on := 0, ground := Go.Ground.phase }, { on := 1, ground := Go.Ground.phase }, { on := 2, ground := Go.Ground.phase }, { on := 3, ground := Go.Ground.phase }, { on := 4, ground := Go.Ground.phase }, { on := 5, ground := Go.Ground.phase }], guard := none }) (by kernel_rfl) (by kernel_rfl) (by kernel_rfl) (by kernel_rfl) rfl ?_
                    intro bA hb W hW KR hKR
                    have e102 := hb 102
                    have e103 := hb 103
                    have e107 := hb 107
                    simp only [List.getElem?_toArray, List.getElem?_cons_succ, List.getElem?_cons_zero] at e102 e103 e107
                    clear hb
                    have hIW := hX.keep hI hW
                    clear hI
                    replace HO5 := Lib.hid (HO5.out.below hW)
                    obtain ⟨W9, r9, l9, t9⟩ := hIW.2.put (ys := popL qs) y0 ((c : Int) - 1) (by have h5 := HPC.out y0; rw [if_pos rfl, HC.out] at h5; omega) (fun y hy => by have h5 := HPC.out y; rw [if_neg (Ne.symm hy)] at h5; omega)
                    have hm9 := hIW.2.ne hIW.1
                    have hg9 := (bel (Below.refl w3.heap.size w3).drew hW).block _ (heap_lt HG3.out)
                    have hG9 := hg9.trans HG3.out
                    have hmg := hIW.2.ne hG9
                    refine wp_mapUpdate rfl (ev_tmp e102) (ev_tmp e103) (ev_tmp e107) r9 ?_
                    refine hKR undef _ ?_
                    have HB9 := Lib.hid (t9.bel _ _ HM.out (bel HB3.out (bel (Below.refl w3.heap.size w3).drew hW)))
                    replace HO5 := Lib.hid (HO5.out.turn t9 l9)
                    have HX9 := Lib.hid ((t9.far _ hm9).trans hIW.1)
                    have HG9 := Lib.hid ((t9.far _ hmg).trans hG9)
                    clear r9 l9 t9 hm9 hg9 hG9 hmg
                    (try clear hW)
                    (try clear hIW)
                    (try simp only [Act.put, List.setIfInBounds_toArray, List.set_cons_zero, List.set_cons_succ])
                    refine c_done (by kernel_rfl) ?_
                    intro w9 hW
                    refine hQ' _ _ ?_
                    clear hQ' hX
                    replace HO5 := Lib.hid (HO5.out.below hW)
                    replace HB9 := Lib.hid (bel HB9.out hW)
                    replace HX9 := Lib.hid ((hW.block _ (heap_lt HX9.out)).trans HX9.out)
                    replace HG9 := Lib.hid ((hW.block _ (heap_lt HG9.out)).trans HG9.out)
                    clear hW
                    go_wp2_with (first
                      | (refine wpList_load_on (by rfl) 40 (.tmp 12) rfl w1.heap.size rfl 40 (IS y0) (0, 0) _ HX9.out Try.underlying40 rfl (info40 _) ?_)
                      | (refine wpList_store_whole rfl 40 (.tmp 10) (.tmp 108) rfl g10 (IS y0) (IS last) 40 rfl rfl HG9.out rfl (info40 _) (by kernel_rfl) ?_; intro w11 hnew hsz hfar hbel; have hr := (show Rw g10 w9 w11 from ⟨hsz, hfar, hbel⟩); have HO6 := Lib.hid (HO5.out.rw hr HG9.out HV1.out HVA.out); have HB6 := Lib.hid (hbel _ _ HG10.out HB9.out); have HG6 := Lib.hid hnew; clear hnew hsz hfar hbel hr))
                    go_roundw
                    case rel => exact ⟨i + 1, _, _, y0, by go_num, by omega, HO6, Lib.hid ⟨pop_heap HS.out.1, by rw [popL_len]; have := HS.out.2; have := H0.out; omega⟩, Lib.hid ⟨HG6.out, HV1.out, fun _ => HMN.out⟩, HB6⟩
                    case measure =>
                      simp [intOf]
                      omega
                · obtain rfl : L = i := by omega
                  obtain rfl : qs = [] := List.eq_nil_of_length_eq_zero (by have := HS.out.2; omega)
                  go_wp2_with (first
                    | (go_at_call 12; refine (q_pop0 w.heap.size gq b v _ HO.out.q).mono ?_; rintro e w1 ⟨rfl, h1⟩; have HO1 := Lib.hid (HO.out.below h1); have HB1 := Lib.hid (bel HB.out h1); clear h1)
                    | (refine wpList_store_whole rfl 40 (.tmp 14) (.tmp 112) rfl w1.heap.size (IS I0) #[.int .i64 0, .int .i64 0, .int .i64 0] 40 rfl rfl (heap_alloc_new w1 _) rfl (info40 _) (by kernel_rfl) ?_; intro w2 hnew hsz hfar hbel; have hb2 := hbel _ _ (Nat.le_refl _) (below_alloc (Below.refl w1.heap.size w1) _); have HO2 := Lib.hid (HO1.out.below hb2); have HB2 := Lib.hid (bel HB1.out hb2); clear hnew hsz hfar hbel hb2)
                    | (go_at_call 16; refine (q_len _ _ _ _ _ _ HO2.out.q).mono ?_; rintro e w3 ⟨rfl, rfl⟩))
                  go_ret
                  exact ⟨rfl, HB2.out⟩
    · have g1 : ¬ (300 : Int) < (N1 : Int) := by omega
      have g2 : (300 : Int) < (N2 : Int) := by omega
      go_wp2_with (go_at_call 8; refine (knows_is _).mono ?_; rintro e w2 ⟨rfl, hb⟩)
      go_ret
      exact ⟨rfl, hb⟩
  · have g1 : (300 : Int) < (N1 : Int) := by omega
    go_wp2_with (go_at_call 8; refine (knows_is _).mono ?_; rintro e w2 ⟨rfl, hb⟩)
    go_ret
    exact ⟨rfl, hb⟩
end Go.Proofs.Ytndfoohdoadkfaa
