/- QueueRows: the walk. -/
import Derived.Test.YtndfoohdoadkfaaRD
set_option linter.unusedVariables false
set_option linter.unusedSimpArgs false
namespace Go.Proofs.Ytndfoohdoadkfaa
open Go.RowKit
theorem info36 (x : It) : (Try.prog.info? 36).map (·.size) = some (IS x).size := by
  rw [show (IS x).size = 3 from rfl]
  kernel_rfl
theorem Rows3.below {W W1 : World} {v : Value} {ls : List (List St)} (h : Rows3 W v ls) (hb : Below W.heap.size W W1) : Rows3 W1 v ls := by
  obtain ⟨A, c, rfl, hc, h⟩ := h
  exact ⟨A, c, rfl, hc, fun h0 => by obtain ⟨g, o, e, hr⟩ := h h0; exact ⟨g, o, e, fun k s hk => by obtain ⟨u, hu, hR, hn⟩ := hr k s hk; exact ⟨u, cell_below hb hu, hR.below hb, hn⟩⟩⟩
theorem bs22 (a b : It) (W : World) : (Instr.buildSlice 22 2 #[(0, .agg (IS a)), (1, .agg (IS b))]).run Try.prog W = .ok (.slice (some ⟨W.heap.size, 0, none⟩) 2 2) (W.alloc (.cells (IS a ++ IS b) 36)) := by
  kernel_rfl
theorem wp_bs22 {o : Oper} {a : Act} {Q : Exit → Act → World → Prop} {ops : Array Oper} {rest : List Oper} {W : World} (p q : It) (hg : o.guard = none) (x y : Operand) (ho : o.op = .buildSlice 22 2 #[(0, x), (1, y)]) (hx : a.eval x = .agg (IS p)) (hy : a.eval y = .agg (IS q))
    (h : wpList Try.prog ops Q rest (a.put o.dst (.slice (some ⟨W.heap.size, 0, none⟩) 2 2)) (W.alloc (.cells (IS p ++ IS q) 36))) : wpList Try.prog ops Q (o :: rest) a W :=
  wpList_of_run hg (exec_buildSlice (l := [(0, x), (1, y)]) ho (by simp only [List.map_cons, List.map_nil, hx, hy]; exact bs22 p q W)) h
theorem rowI_two {W : World} {g : Nat} {a b : It} {T : TypeId} (hg : W.heap[g]? = some (.cells (IS a ++ IS b) T (0, 0))) : RowI W (.slice (some ⟨g, 0, none⟩) 2 2) [a, b] :=
  ⟨_, _, rfl, Nat.le_refl _, fun _ => ⟨g, 0, rfl, fun q t hq => by
    rcases q with _ | _ | q
    · injection hq with hq
      subst hq
      refine range_of_heap hg _ _ (fun j v hv => ?_)
      have := (List.getElem?_eq_some_iff.1 hv).1
      rw [Array.getElem?_append_left (by simpa [IS] using this)]
      simpa using hv
    · injection hq with hq
      subst hq
      refine range_of_heap hg _ _ (fun j v hv => ?_)
      rw [Array.getElem?_append_right (by simp [IS]), show 0 + (0 + 1) * 3 + j - (IS a).size = j by simp [IS]]
      simpa using hv
    · simp at hq⟩⟩
theorem flat_le (n m : Nat) : ∀ ls : List (List St), ls.length ≤ m → (∀ l ∈ ls, l.length ≤ n) → ls.flatten.length ≤ m * n
  | [], _, _ => by simp
  | l :: ls, h, k => by
    cases m with
    | zero => simp at h
    | succ m =>
      have h1 := flat_le n m ls (by simpa using h) (fun x hx => k x (by simp [hx]))
      have h2 := k l (by simp)
      simp only [List.flatten_cons, List.length_append]
      rw [Nat.succ_mul]
      omega
set_option maxRecDepth 10000 in
set_option maxHeartbeats 8000000 in
theorem rowsq_any (xa xb : It) (v : Value) (ls : List (List St)) (s : St) (w : World) (h : Rows3 w v ls) :
    Calls Try.prog 6 #[.agg (IS xa), .agg (IS xb), v, .agg (SS s)] w fun e w' => e = .returned (.bool true) ∧ Below w.heap.size w w' := by
  have H := Lib.hid h
  obtain ⟨A, c, rfl, k1, r1⟩ := h
  obtain ⟨N, hN⟩ : ∃ N, N = ls.length := ⟨_, rfl⟩
  have HN := Lib.hid hN
  have R1 := Lib.hid r1
  rw [← hN] at k1 H ⊢
  clear hN r1
  go_enter Try.func6, Try.ntmps6
  by_cases q20 : N ≤ 20
  · have g1 : ¬ (20 : Int) < (N : Int) := by omega
    go_wp2
    obtain ⟨W0, hW0⟩ : ∃ W0, W0 = ((w.alloc (Obj.cells (IS xa) 36)).alloc (Obj.cells (IS xb) 36)).alloc (Obj.cells (SS s) 34) := ⟨_, rfl⟩
    have HB0 := Lib.hid (show Below w.heap.size w W0 from by rw [hW0]; exact below_alloc (below_alloc (below_alloc (Below.refl _ _) _) _) _)
    have HCA := Lib.hid (show W0.rangeAt w.heap.size 0 (IS xa).toList from by
      rw [hW0]
      exact range_below (below_alloc (below_alloc (Below.refl _ _) _) _) (range_of_heap (heap_alloc_new w (Obj.cells (IS xa) 36)) _ _ (fun j v hv => by simpa using hv)))
    have HCB := Lib.hid (show W0.rangeAt (w.heap.size + 1) 0 (IS xb).toList from by
      rw [hW0]
      exact range_below (below_alloc (Below.refl _ _) _) (range_of_heap (heap_new_at (w := w.alloc (Obj.cells (IS xa) 36)) (o := Obj.cells (IS xb) 36) (by simp)) _ _ (fun j v hv => by simpa using hv)))
    have HCS := Lib.hid (show W0.rangeAt (w.heap.size + 1 + 1) 0 (SS s).toList from by
      rw [hW0]
      exact range_of_heap (heap_new_at (w := (w.alloc (Obj.cells (IS xa) 36)).alloc (Obj.cells (IS xb) 36)) (o := Obj.cells (SS s) 34) (by simp)) _ _ (fun j v hv => by simpa using hv))
    have H0 := Lib.hid (show Rows3 W0 (.slice A N c) ls from H.out.below HB0.out)
    rw [← hW0]
    clear hW0
    go_loopw [9] (fun n wr => ∃ (i : Nat), n = .int .i64 i ∧ i ≤ N ∧ Hid (∀ (k : Nat) (l : List St), k < i → ls[k]? = some l → l.length ≤ 60) ∧ Hid (Below W0.heap.size W0 wr)) (fun n _ => N - (intOf n).toNat)
    case atStart => exact ⟨0, rfl, by omega, Lib.hid (fun k l hk => absurd hk (by omega)), Lib.hid (Below.refl _ _)⟩
    case round =>
      obtain ⟨i, rfl, hi, HLE, HB⟩ := hrel
      by_cases q : i < N
      · obtain ⟨g, o, rfl, r1⟩ := R1.out (by rw [← HN.out]; omega)
        obtain ⟨l, hl⟩ : ∃ l, ls[i]? = some l := ⟨_, List.getElem?_eq_getElem (by rw [← HN.out]; omega)⟩
        obtain ⟨u, hu, ⟨A2, c2, rfl, k2, r2⟩, hnz⟩ := r1 i l hl
        have HLI := Lib.hid hl
        have hu2 := cell_below (bel HB0.out HB.out) hu
        obtain ⟨M, hM⟩ : ∃ M, M = l.length := ⟨_, rfl⟩
        have HMM := Lib.hid hM
        rw [← hM] at hu2
        clear r1 hl hu k2 r2 hnz hM
        by_cases q60 : M ≤ 60
        · have g2 : ¬ (60 : Int) < (M : Int) := by omega
          go_wp2
          go_roundw
          case rel =>
            refine ⟨i + 1, by go_num, by omega, Lib.hid (fun k m hk hm => ?_), HB⟩
            rcases Nat.lt_or_ge k i with h | h
            · exact HLE.out k m h hm
            · obtain rfl : k = i := by omega
              have e := HLI.out
              rw [hm] at e
              injection e with e
              subst e
              rw [← HMM.out]
              exact q60
          case measure =>
            simp [intOf]
            omega
        · have g2 : (60 : Int) < (M : Int) := by omega
          go_wp2_with (go_at_call 8; refine (knows_is _).mono ?_; rintro e w2 ⟨rfl, hb⟩)
          go_ret
          exact ⟨rfl, bel (bel HB0.out HB.out) hb⟩
      · obtain rfl : N = i := by omega
        have hall : ∀ l ∈ ls, l.length ≤ 60 := fun l hl => by
          obtain ⟨k, hk⟩ := List.getElem?_of_mem hl
          exact HLE.out k l (by have := (List.getElem?_eq_some_iff.1 hk).1; rw [← HN.out] at this; exact this) hk
        have HALL := Lib.hid hall
        have hfl : ls.flatten.length ≤ 1200 := by
          have := flat_le 60 20 ls (by rw [← HN.out]; exact q20) hall
          omega
        have HFL := Lib.hid hfl
        have hml := merge_len ls
        have HML := Lib.hid (show (mergeL ls).length ≤ 1000000 from by omega)
        obtain ⟨X, hX⟩ : ∃ X, X = mergeL ls := ⟨_, rfl⟩
        have HX := Lib.hid hX
        rw [← hX] at hml HML
        clear hall hfl hml hX
        have HNL := Lib.hid (show ls.length ≤ 900000 from by rw [← HN.out]; omega)
        go_wp2_with (first
          | (go_at_call 20; refine (same_any _ _ X X _ RX.out RY.out HML.out HML.out).mono ?_; rintro e w6 ⟨rfl, h6⟩; rw [decide_eq_true (rfl : X = X)]; have H6 := Lib.hid (bel H5.out h6); have HR6 := Lib.hid (HR5.out.below h6); clear h6 RX RY H5 HR5)
          | (go_at_call 21; refine (rmerge_any _ ls _ ((H0.out.below H4.out).two) (by have := HFL.out; omega) (by have := HNL.out; omega) (fun l hl => by have := HALL.out l hl; omega)).mono ?_; rintro e w5 ⟨v5, rfl, r5, h5⟩; rw [rmerge_is, ← HX.out] at r5; obtain ⟨A5, c5, rfl⟩ := own_slice r5; have RY := Lib.hid (row_of_own r5); have H5 := Lib.hid (bel H4.out h5); have RX := Lib.hid (R4.out.below h5); have HR5 := Lib.hid (HR4.out.below h5); clear r5 h5 H4 R4 HR4)
          | (go_at_call 19; refine (merge_in W0 _ ls _ HR3.out.read (by have := HFL.out; omega) (by have := HNL.out; omega) H3.out).mono ?_; rintro e w4 ⟨v4, rfl, r4, h4, h4'⟩; rw [← HX.out] at r4; obtain ⟨A4, c4, rfl⟩ := own_slice r4; have R4 := Lib.hid (row_of_own r4); have H4 := Lib.hid h4; have HR4 := Lib.hid (HR3.out.below h4'); clear r4 h4 h4' HR3 H3)
          | (go_at_call 18; refine (rows_any _ ls _ (H0.out.below HB.out) HNL.out (fun l hl => by have := HALL.out l hl; omega)).mono ?_; rintro e w3 ⟨v3, vs, rfl, r3, h3⟩; obtain ⟨A3, c3, rfl⟩ := own_slice r3.1; have HR3 := Lib.hid r3; have H3 := Lib.hid (bel HB.out h3); clear r3 h3))
        have hr6 := HR6.out
        rw [← HN.out] at hr6 ⊢
        have HR := Lib.hid hr6
        clear hr6 HR6
        obtain ⟨bs, hbs⟩ : ∃ bs, bs = wr.heap.size := ⟨_, rfl⟩
        rw [← hbs] at HR
        clear hbs
        go_loopw [12] (fun n wr => ∃ (i : Nat), n = .int .i64 i ∧ i ≤ N ∧ Hid (RowsO wr bs (.slice A3 N c3) ls vs) ∧ Hid (Below W0.heap.size W0 wr)) (fun n _ => N - (intOf n).toNat)
        case atStart => exact ⟨0, rfl, by omega, HR, H6⟩
        case round =>
          obtain ⟨i, rfl, hi, HQ, HBq⟩ := hrel
          by_cases q : i < N
          · obtain ⟨g, o, rfl, r1⟩ := R1.out (by rw [← HN.out]; omega)
            obtain ⟨l, hl⟩ : ∃ l, ls[i]? = some l := ⟨_, List.getElem?_eq_getElem (by rw [← HN.out]; omega)⟩
            obtain ⟨u, hu⟩ : ∃ u, vs[i]? = some u := ⟨_, List.getElem?_eq_getElem (by rw [HQ.out.2.1, ← HN.out]; omega)⟩
            have hq1 := HQ.out.1
            rw [← HN.out] at hq1
            obtain ⟨g3, rfl, hc3⟩ := own_cell hq1 hu
            have hRu := row_of_own (HQ.out.2.2 i u l hu hl)
            obtain ⟨u2, hu2, hRl, _⟩ := r1 i l hl
            have hc4 := cell_below (bel HB0.out HBq.out) hu2
            have hRl := hRl.below (bel HB0.out HBq.out)
            obtain ⟨B1, b1, e1, k3, r3⟩ := id hRu
            obtain ⟨B2, b2, e2, k4, r4⟩ := id hRl
            subst e1 e2
            clear k3 r3 k4 r4 hq1 r1 hu2
            have HLI := Lib.hid hl
            have hm60 : l.length ≤ 1000000 := by have := HALL.out l (List.mem_of_getElem? hl); omega
            have HL60 := Lib.hid hm60
            obtain ⟨M, hM⟩ : ∃ M, M = l.length := ⟨_, rfl⟩
            rw [← hM] at hc3 hc4 hRu hRl
            clear hM hl hu hm60
            have HC3 := Lib.hid hc3
            have HC4 := Lib.hid hc4
            have HRu := Lib.hid hRu
            have HRl := Lib.hid hRl
            clear hc3 hc4 hRu hRl
            have HCSq := Lib.hid (range_below HBq.out HCS.out)
            obtain ⟨pn, hpn⟩ : ∃ pn : Int, (if riseB l = true then ((plc l s : Nat) : Int) else ((0 : Nat) : Int)) = pn := ⟨_, rfl⟩
            obtain ⟨pb, hpb⟩ : ∃ pb : Bool, (riseB l && fnd l s) = pb := ⟨_, rfl⟩
            obtain ⟨rb, hrb⟩ : ∃ rb : Bool, riseB l = rb := ⟨_, rfl⟩
            have HPN := Lib.hid hpn
            have HPB := Lib.hid hpb
            have HRB := Lib.hid hrb
            clear hpn hpb hrb
            have q3 : (i : Int) < (N : Int) := by omega
            go_wp2
            refine run_region (fn := Try.f6) (id := 15) (n := 11) [] (Bw wr) Gr (by kernel_rfl) (by kernel_rfl) (by kernel_rfl) (by kernel_rfl) Gr.refl (fun _ _ _ => Gr.trans) (fun _ _ h k => bel h k) ?_
            intro Q' hQ' hX
            have hI : (Bw wr) _ := below_drew1 (Below.refl _ _)
            refine c_val hX (v := ?_) 0 ({ dst := some 51, op := Go.Op.move (Go.Operand.tmp 10), type := 54, pos := "law.go:129", after := #[], guard := none }) hI (by kernel_rfl) (by kernel_rfl) rfl ?_ ?_
            rotate_left
            · intro bA hb W hI KR hKR
              have e10 := hb 10
              simp only [List.getElem?_toArray, List.getElem?_cons_succ, List.getElem?_cons_zero] at e10
              clear hb
              go_simp
              exact hKR _ (Gr.refl _)
            (try simp only [Act.put, List.setIfInBounds_toArray, List.set_cons_zero, List.set_cons_succ])
            refine c_val hX (v := ?_) 1 ({ dst := some 52, op := Go.Op.move (Go.Operand.tmp 12), type := 3, pos := "law.go:129", after := #[], guard := none }) hI (by kernel_rfl) (by kernel_rfl) rfl ?_ ?_
            rotate_left
            · intro bA hb W hI KR hKR
              have e12 := hb 12
              simp only [List.getElem?_toArray, List.getElem?_cons_succ, List.getElem?_cons_zero] at e12
              clear hb
              go_simp
              exact hKR _ (Gr.refl _)
            (try simp only [Act.put, List.setIfInBounds_toArray, List.set_cons_zero, List.set_cons_succ])
            refine c_val hX (v := ?_) 2 ({ dst := some 53, op := Go.Op.indexAddr 54 (Go.Operand.tmp 51) (Go.Operand.tmp 52), type := 0, pos := "law.go:129", after := #[{ on := 0, ground := Go.Ground.data }, { on := 1, ground := Go.Ground.data }], guard := none }) hI (by kernel_rfl) (by kernel_rfl) rfl ?_ ?_
            rotate_left
            · intro bA hb W hI KR hKR
              have e51 := hb 51
              have e52 := hb 52
              simp only [List.getElem?_toArray, List.getElem?_cons_succ, List.getElem?_cons_zero] at e51 e52
              clear hb
              go_simp
              exact hKR _ (Gr.refl _)
            (try simp only [Act.put, List.setIfInBounds_toArray, List.set_cons_zero, List.set_cons_succ])
            refine c_val hX (v := ?_) 3 ({ dst := some 54, op := Go.Op.load 55 (Go.Operand.tmp 53), type := 55, pos := "law.go:129", after := #[{ on := 2, ground := Go.Ground.data }], guard := none }) hI (by kernel_rfl) (by kernel_rfl) rfl ?_ ?_
            rotate_left
            · intro bA hb W hI KR hKR
              have e53 := hb 53
              simp only [List.getElem?_toArray, List.getElem?_cons_succ, List.getElem?_cons_zero] at e53
              clear hb
              have cc := cell_below hI HC3.out
              go_simp
              exact hKR _ (hX.refl _)
            (try simp only [Act.put, List.setIfInBounds_toArray, List.set_cons_zero, List.set_cons_succ])
            refine c_val hX (v := ?_) 4 ({ dst := some 55, op := Go.Op.load 34 (Go.Operand.tmp 7), type := 34, pos := "law.go:129", after := #[], guard := none }) hI (by kernel_rfl) (by kernel_rfl) rfl ?_ ?_
            rotate_left
            · intro bA hb W hI KR hKR
              have e7 := hb 7
              simp only [List.getElem?_toArray, List.getElem?_cons_succ, List.getElem?_cons_zero] at e7
              clear hb
              refine wp_load_mid 34 (.tmp 7) rfl (w.heap.size + 1 + 1) (0) (ev_tmp e7) (SS s).toList _ (range_below hI HCSq.out) Try.underlying34 rfl (info34 _) ?_
              exact hKR _ (hX.refl _)
            (try simp only [Act.put, List.setIfInBounds_toArray, List.set_cons_zero, List.set_cons_succ])
            refine c_val hX (v := ?_) 5 ({ dst := some 56, op := Go.Op.call { callee := Go.Callee.value (Go.Operand.func 22), args := #[Go.Operand.tmp 54, Go.Operand.tmp 55], argTypes := #[55, 34] }, type := 60, pos := "law.go:129", after := #[{ on := 3, ground := Go.Ground.data }, { on := 4, ground := Go.Ground.data }], guard := none }) hI (by kernel_rfl) (by kernel_rfl) rfl ?_ ?_
            rotate_left
            · intro bA hb W hI KR hKR
              have e54 := hb 54
              have e55 := hb 55
              simp only [List.getElem?_toArray, List.getElem?_cons_succ, List.getElem?_cons_zero] at e54 e55
              clear hb
              go_simp
              go_at_call 22
              refine (place_any _ l s _ (HRu.out.below hI) HL60.out).mono ?_
              rintro e w1 ⟨rfl, hb⟩
              rw [HPN.out, HPB.out]
              exact hKR _ hb
            (try simp only [Act.put, List.setIfInBounds_toArray, List.set_cons_zero, List.set_cons_succ])
            refine c_val hX (v := ?_) 6 ({ dst := some 50, op := Go.Op.move (Go.Operand.tmp 56), type := 60, pos := "law.go:129", after := #[{ on := 5, ground := Go.Ground.data }], guard := none }) hI (by kernel_rfl) (by kernel_rfl) rfl ?_ ?_
            rotate_left
            · intro bA hb W hI KR hKR
              have e56 := hb 56
              simp only [List.getElem?_toArray, List.getElem?_cons_succ, List.getElem?_cons_zero] at e56
              clear hb
              go_simp
              exact hKR _ (Gr.refl _)
            (try simp only [Act.put, List.setIfInBounds_toArray, List.set_cons_zero, List.set_cons_succ])
            refine c_val hX (v := ?_) 7 ({ dst := some 57, op := Go.Op.extract (Go.Operand.tmp 50) 0, type := 3, pos := "law.go:129", after := #[{ on := 6, ground := Go.Ground.data }], guard := none }) hI (by kernel_rfl) (by kernel_rfl) rfl ?_ ?_
            rotate_left
            · intro bA hb W hI KR hKR
              have e50 := hb 50
              simp only [List.getElem?_toArray, List.getElem?_cons_succ, List.getElem?_cons_zero] at e50
              clear hb
              go_simp
              exact hKR _ (Gr.refl _)
            (try simp only [Act.put, List.setIfInBounds_toArray, List.set_cons_zero, List.set_cons_succ])
            refine c_val hX (v := ?_) 8 ({ dst := some 58, op := Go.Op.extract (Go.Operand.tmp 50) 1, type := 4, pos := "law.go:129", after := #[{ on := 6, ground := Go.Ground.data }, { on := 9, ground := Go.Ground.gcOnly Go.Departure.lateStores }], guard := none }) hI (by kernel_rfl) (by kernel_rfl) rfl ?_ ?_
            rotate_left
            · intro bA hb W hI KR hKR
              have e50 := hb 50
              simp only [List.getElem?_toArray, List.getElem?_cons_succ, List.getElem?_cons_zero] at e50
              clear hb
              go_simp
              exact hKR _ (Gr.refl _)
            (try simp only [Act.put, List.setIfInBounds_toArray, List.set_cons_zero, List.set_cons_succ])
            refine c_val hX (v := ?_) 9 ({ dst := some 13, op := Go.Op.assign (Go.Operand.tmp 57), type := 3, pos := "law.go:129", after := #[{ on := 7, ground := Go.Ground.data }, { on := 5, ground := Go.Ground.chain }, { on := 0, ground := Go.Ground.phase }, { on := 1, ground := Go.Ground.phase }, { on := 2, ground := Go.Ground.phase }, { on := 3, ground := Go.Ground.phase }, { on := 4, ground := Go.Ground.phase }, { on := 5, ground := Go.Ground.phase }, { on := 6, ground := Go.Ground.phase }, { on := 7, ground := Go.Ground.phase }, { on := 8, ground := Go.Ground.textOnly Go.Departure.lateStores }], guard := none }) hI (by kernel_rfl) (by kernel_rfl) rfl ?_ ?_
            rotate_left
            · intro bA hb W hI KR hKR
              have e57 := hb 57
              simp only [List.getElem?_toArray, List.getElem?_cons_succ, List.getElem?_cons_zero] at e57
              clear hb
              go_simp
              exact hKR _ (Gr.refl _)
            (try simp only [Act.put, List.setIfInBounds_toArray, List.set_cons_zero, List.set_cons_succ])
            refine c_val hX (v := ?_) 10 ({ dst := some 14, op := Go.Op.assign (Go.Operand.tmp 58), type := 4, pos := "law.go:129", after := #[{ on := 8, ground := Go.Ground.data }, { on := 9, ground := Go.Ground.chain }, { on := 0, ground := Go.Ground.phase }, { on := 1, ground := Go.Ground.phase }, { on := 2, ground := Go.Ground.phase }, { on := 3, ground := Go.Ground.phase }, { on := 4, ground := Go.Ground.phase }, { on := 5, ground := Go.Ground.phase }, { on := 6, ground := Go.Ground.phase }, { on := 7, ground := Go.Ground.phase }, { on := 8, ground := Go.Ground.phase }, { on := 9, ground := Go.Ground.phase }], guard := none }) hI (by kernel_rfl) (by kernel_rfl) rfl ?_ ?_
            rotate_left
            · intro bA hb W hI KR hKR
              have e58 := hb 58
              simp only [List.getElem?_toArray, List.getElem?_cons_succ, List.getElem?_cons_zero] at e58
              clear hb
              go_simp
              exact hKR _ (Gr.refl _)
            (try simp only [Act.put, List.setIfInBounds_toArray, List.set_cons_zero, List.set_cons_succ])
            refine c_done (by kernel_rfl) ?_
            intro w7 hW
            refine hQ' _ _ ?_
            have hI := hX.keep hI hW
            clear hQ' hX hW
            have H7 := Lib.hid hI
            go_wp2
            refine run_region (fn := Try.f6) (id := 16) (n := 11) [] (Bw wr) Gr (by kernel_rfl) (by kernel_rfl) (by kernel_rfl) (by kernel_rfl) Gr.refl (fun _ _ _ => Gr.trans) (fun _ _ h k => bel h k) ?_
            intro Q' hQ' hX
            have hI : (Bw wr) _ := below_drew1 H7.out
            refine c_val hX (v := ?_) 0 ({ dst := some 60, op := Go.Op.move (Go.Operand.tmp 2), type := 54, pos := "law.go:130", after := #[], guard := none }) hI (by kernel_rfl) (by kernel_rfl) rfl ?_ ?_
            rotate_left
            · intro bA hb W hI KR hKR
              have e2 := hb 2
              simp only [List.getElem?_toArray, List.getElem?_cons_succ, List.getElem?_cons_zero] at e2
              clear hb
              go_simp
              exact hKR _ (Gr.refl _)
            (try simp only [Act.put, List.setIfInBounds_toArray, List.set_cons_zero, List.set_cons_succ])
            refine c_val hX (v := ?_) 1 ({ dst := some 61, op := Go.Op.move (Go.Operand.tmp 12), type := 3, pos := "law.go:130", after := #[], guard := none }) hI (by kernel_rfl) (by kernel_rfl) rfl ?_ ?_
            rotate_left
            · intro bA hb W hI KR hKR
              have e12 := hb 12
              simp only [List.getElem?_toArray, List.getElem?_cons_succ, List.getElem?_cons_zero] at e12
              clear hb
              go_simp
              exact hKR _ (Gr.refl _)
            (try simp only [Act.put, List.setIfInBounds_toArray, List.set_cons_zero, List.set_cons_succ])
            refine c_val hX (v := ?_) 2 ({ dst := some 62, op := Go.Op.indexAddr 54 (Go.Operand.tmp 60) (Go.Operand.tmp 61), type := 0, pos := "law.go:130", after := #[{ on := 0, ground := Go.Ground.data }, { on := 1, ground := Go.Ground.data }], guard := none }) hI (by kernel_rfl) (by kernel_rfl) rfl ?_ ?_
            rotate_left
            · intro bA hb W hI KR hKR
              have e60 := hb 60
              have e61 := hb 61
              simp only [List.getElem?_toArray, List.getElem?_cons_succ, List.getElem?_cons_zero] at e60 e61
              clear hb
              go_simp
              exact hKR _ (Gr.refl _)
            (try simp only [Act.put, List.setIfInBounds_toArray, List.set_cons_zero, List.set_cons_succ])
            refine c_val hX (v := ?_) 3 ({ dst := some 63, op := Go.Op.load 55 (Go.Operand.tmp 62), type := 55, pos := "law.go:130", after := #[{ on := 2, ground := Go.Ground.data }], guard := none }) hI (by kernel_rfl) (by kernel_rfl) rfl ?_ ?_
            rotate_left
            · intro bA hb W hI KR hKR
              have e62 := hb 62
              simp only [List.getElem?_toArray, List.getElem?_cons_succ, List.getElem?_cons_zero] at e62
              clear hb
              have cc := cell_below hI HC4.out
              go_simp
              exact hKR _ (hX.refl _)
            (try simp only [Act.put, List.setIfInBounds_toArray, List.set_cons_zero, List.set_cons_succ])
            refine c_val hX (v := ?_) 4 ({ dst := some 64, op := Go.Op.load 34 (Go.Operand.tmp 7), type := 34, pos := "law.go:130", after := #[], guard := none }) hI (by kernel_rfl) (by kernel_rfl) rfl ?_ ?_
            rotate_left
            · intro bA hb W hI KR hKR
              have e7 := hb 7
              simp only [List.getElem?_toArray, List.getElem?_cons_succ, List.getElem?_cons_zero] at e7
              clear hb
              refine wp_load_mid 34 (.tmp 7) rfl (w.heap.size + 1 + 1) (0) (ev_tmp e7) (SS s).toList _ (range_below hI HCSq.out) Try.underlying34 rfl (info34 _) ?_
              exact hKR _ (hX.refl _)
            (try simp only [Act.put, List.setIfInBounds_toArray, List.set_cons_zero, List.set_cons_succ])
            refine c_val hX (v := ?_) 5 ({ dst := some 65, op := Go.Op.call { callee := Go.Callee.value (Go.Operand.func 23), args := #[Go.Operand.tmp 63, Go.Operand.tmp 64], argTypes := #[55, 34] }, type := 60, pos := "law.go:130", after := #[{ on := 3, ground := Go.Ground.data }, { on := 4, ground := Go.Ground.data }], guard := none }) hI (by kernel_rfl) (by kernel_rfl) rfl ?_ ?_
            rotate_left
            · intro bA hb W hI KR hKR
              have e63 := hb 63
              have e64 := hb 64
              simp only [List.getElem?_toArray, List.getElem?_cons_succ, List.getElem?_cons_zero] at e63 e64
              clear hb
              go_simp
              go_at_call 23
              refine (rplace_any _ l s _ (HRl.out.below hI) HL60.out).mono ?_
              rintro e w1 ⟨rfl, hb⟩
              rw [HPN.out, HPB.out]
              exact hKR _ hb
            (try simp only [Act.put, List.setIfInBounds_toArray, List.set_cons_zero, List.set_cons_succ])
            refine c_val hX (v := ?_) 6 ({ dst := some 59, op := Go.Op.move (Go.Operand.tmp 65), type := 60, pos := "law.go:130", after := #[{ on := 5, ground := Go.Ground.data }], guard := none }) hI (by kernel_rfl) (by kernel_rfl) rfl ?_ ?_
            rotate_left
            · intro bA hb W hI KR hKR
              have e65 := hb 65
              simp only [List.getElem?_toArray, List.getElem?_cons_succ, List.getElem?_cons_zero] at e65
              clear hb
              go_simp
              exact hKR _ (Gr.refl _)
            (try simp only [Act.put, List.setIfInBounds_toArray, List.set_cons_zero, List.set_cons_succ])
            refine c_val hX (v := ?_) 7 ({ dst := some 66, op := Go.Op.extract (Go.Operand.tmp 59) 0, type := 3, pos := "law.go:130", after := #[{ on := 6, ground := Go.Ground.data }], guard := none }) hI (by kernel_rfl) (by kernel_rfl) rfl ?_ ?_
            rotate_left
            · intro bA hb W hI KR hKR
              have e59 := hb 59
              simp only [List.getElem?_toArray, List.getElem?_cons_succ, List.getElem?_cons_zero] at e59
              clear hb
              go_simp
              exact hKR _ (Gr.refl _)
            (try simp only [Act.put, List.setIfInBounds_toArray, List.set_cons_zero, List.set_cons_succ])
            refine c_val hX (v := ?_) 8 ({ dst := some 67, op := Go.Op.extract (Go.Operand.tmp 59) 1, type := 4, pos := "law.go:130", after := #[{ on := 6, ground := Go.Ground.data }, { on := 9, ground := Go.Ground.gcOnly Go.Departure.lateStores }], guard := none }) hI (by kernel_rfl) (by kernel_rfl) rfl ?_ ?_
            rotate_left
            · intro bA hb W hI KR hKR
              have e59 := hb 59
              simp only [List.getElem?_toArray, List.getElem?_cons_succ, List.getElem?_cons_zero] at e59
              clear hb
              go_simp
              exact hKR _ (Gr.refl _)
            (try simp only [Act.put, List.setIfInBounds_toArray, List.set_cons_zero, List.set_cons_succ])
            refine c_val hX (v := ?_) 9 ({ dst := some 15, op := Go.Op.assign (Go.Operand.tmp 66), type := 3, pos := "law.go:130", after := #[{ on := 7, ground := Go.Ground.data }, { on := 5, ground := Go.Ground.chain }, { on := 0, ground := Go.Ground.phase }, { on := 1, ground := Go.Ground.phase }, { on := 2, ground := Go.Ground.phase }, { on := 3, ground := Go.Ground.phase }, { on := 4, ground := Go.Ground.phase }, { on := 5, ground := Go.Ground.phase }, { on := 6, ground := Go.Ground.phase }, { on := 7, ground := Go.Ground.phase }, { on := 8, ground := Go.Ground.textOnly Go.Departure.lateStores }], guard := none }) hI (by kernel_rfl) (by kernel_rfl) rfl ?_ ?_
            rotate_left
            · intro bA hb W hI KR hKR
              have e66 := hb 66
              simp only [List.getElem?_toArray, List.getElem?_cons_succ, List.getElem?_cons_zero] at e66
              clear hb
              go_simp
              exact hKR _ (Gr.refl _)
            (try simp only [Act.put, List.setIfInBounds_toArray, List.set_cons_zero, List.set_cons_succ])
            refine c_val hX (v := ?_) 10 ({ dst := some 16, op := Go.Op.assign (Go.Operand.tmp 67), type := 4, pos := "law.go:130", after := #[{ on := 8, ground := Go.Ground.data }, { on := 9, ground := Go.Ground.chain }, { on := 0, ground := Go.Ground.phase }, { on := 1, ground := Go.Ground.phase }, { on := 2, ground := Go.Ground.phase }, { on := 3, ground := Go.Ground.phase }, { on := 4, ground := Go.Ground.phase }, { on := 5, ground := Go.Ground.phase }, { on := 6, ground := Go.Ground.phase }, { on := 7, ground := Go.Ground.phase }, { on := 8, ground := Go.Ground.phase }, { on := 9, ground := Go.Ground.phase }], guard := none }) hI (by kernel_rfl) (by kernel_rfl) rfl ?_ ?_
            rotate_left
            · intro bA hb W hI KR hKR
              have e67 := hb 67
              simp only [List.getElem?_toArray, List.getElem?_cons_succ, List.getElem?_cons_zero] at e67
              clear hb
              go_simp
              exact hKR _ (Gr.refl _)
            (try simp only [Act.put, List.setIfInBounds_toArray, List.set_cons_zero, List.set_cons_succ])
            refine c_done (by kernel_rfl) ?_
            intro w8 hW
            refine hQ' _ _ ?_
            have hI := hX.keep hI hW
            clear hQ' hX hW
            have H8 := Lib.hid hI
            clear H7
            go_wp2
            refine run_region (fn := Try.f6) (id := 17) (n := 33) [] (Bw wr) Gr (by kernel_rfl) (by kernel_rfl) (by kernel_rfl) (by kernel_rfl) Gr.refl (fun _ _ _ => Gr.trans) (fun _ _ h k => bel h k) ?_
            intro Q' hQ' hX
            have hI : (Bw wr) _ := below_drew1 H8.out
            refine c_val hX (v := ?_) 0 ({ dst := some 68, op := Go.Op.move (Go.Operand.tmp 13), type := 3, pos := "law.go:131", after := #[], guard := none }) hI (by kernel_rfl) (by kernel_rfl) rfl ?_ ?_
            rotate_left
            · intro bA hb W hI KR hKR
              have e13 := hb 13
              simp only [List.getElem?_toArray, List.getElem?_cons_succ, List.getElem?_cons_zero] at e13
              clear hb
              go_simp
              exact hKR _ (Gr.refl _)
            (try simp only [Act.put, List.setIfInBounds_toArray, List.set_cons_zero, List.set_cons_succ])
            refine c_val hX (v := ?_) 1 ({ dst := some 69, op := Go.Op.move (Go.Operand.tmp 15), type := 3, pos := "law.go:131", after := #[], guard := none }) hI (by kernel_rfl) (by kernel_rfl) rfl ?_ ?_
            rotate_left
            · intro bA hb W hI KR hKR
              have e15 := hb 15
              simp only [List.getElem?_toArray, List.getElem?_cons_succ, List.getElem?_cons_zero] at e15
              clear hb
              go_simp
              exact hKR _ (Gr.refl _)
            (try simp only [Act.put, List.setIfInBounds_toArray, List.set_cons_zero, List.set_cons_succ])
            refine c_val hX (v := ?_) 2 ({ dst := some 70, op := Go.Op.binOp Go.BinOp.neq 3 (Go.Operand.tmp 68) (Go.Operand.tmp 69) 3, type := 4, pos := "law.go:131", after := #[{ on := 0, ground := Go.Ground.data }, { on := 1, ground := Go.Ground.data }], guard := none }) hI (by kernel_rfl) (by kernel_rfl) rfl ?_ ?_
            rotate_left
            · intro bA hb W hI KR hKR
              have e68 := hb 68
              have e69 := hb 69
              simp only [List.getElem?_toArray, List.getElem?_cons_succ, List.getElem?_cons_zero] at e68 e69
              clear hb
              go_simp
              exact hKR _ (Gr.refl _)
            (try simp only [Act.put, List.setIfInBounds_toArray, List.set_cons_zero, List.set_cons_succ])
            refine c_val hX (v := ?_) 3 ({ dst := some 71, op := Go.Op.move (Go.Operand.tmp 70), type := 4, pos := "law.go:131", after := #[{ on := 2, ground := Go.Ground.data }], guard := none }) hI (by kernel_rfl) (by kernel_rfl) rfl ?_ ?_
            rotate_left
            · intro bA hb W hI KR hKR
              have e70 := hb 70
              simp only [List.getElem?_toArray, List.getElem?_cons_succ, List.getElem?_cons_zero] at e70
              clear hb
              go_simp
              exact hKR _ (Gr.refl _)
            (try simp only [Act.put, List.setIfInBounds_toArray, List.set_cons_zero, List.set_cons_succ])
            refine c_val hX (v := ?_) 4 ({ dst := some 72, op := Go.Op.move (Go.Operand.tmp 14), type := 4, pos := "law.go:131", after := #[{ on := 3, ground := Go.Ground.guard }], guard := some (3, false) }) hI (by kernel_rfl) (by kernel_rfl) (wanted_of (j := 3) (d := 71) rfl (by kernel_rfl) rfl) ?_ ?_
            rotate_left
            · intro bA hb W hI KR hKR
              have e14 := hb 14
              simp only [List.getElem?_toArray, List.getElem?_cons_succ, List.getElem?_cons_zero] at e14
              clear hb
              go_simp
              exact hKR _ (Gr.refl _)
            (try simp only [Act.put, List.setIfInBounds_toArray, List.set_cons_zero, List.set_cons_succ])
            refine c_val hX (v := ?_) 5 ({ dst := some 73, op := Go.Op.move (Go.Operand.tmp 16), type := 4, pos := "law.go:131", after := #[{ on := 3, ground := Go.Ground.guard }], guard := some (3, false) }) hI (by kernel_rfl) (by kernel_rfl) (wanted_of (j := 3) (d := 71) rfl (by kernel_rfl) rfl) ?_ ?_
            rotate_left
            · intro bA hb W hI KR hKR
              have e16 := hb 16
              simp only [List.getElem?_toArray, List.getElem?_cons_succ, List.getElem?_cons_zero] at e16
              clear hb
              go_simp
              exact hKR _ (Gr.refl _)
            (try simp only [Act.put, List.setIfInBounds_toArray, List.set_cons_zero, List.set_cons_succ])
            refine c_val hX (v := ?_) 6 ({ dst := some 74, op := Go.Op.binOp Go.BinOp.neq 4 (Go.Operand.tmp 72) (Go.Operand.tmp 73) 4, type := 4, pos := "law.go:131", after := #[{ on := 4, ground := Go.Ground.data }, { on := 5, ground := Go.Ground.data }, { on := 3, ground := Go.Ground.guard }], guard := some (3, false) }) hI (by kernel_rfl) (by kernel_rfl) (wanted_of (j := 3) (d := 71) rfl (by kernel_rfl) rfl) ?_ ?_
            rotate_left
            · intro bA hb W hI KR hKR
              have e72 := hb 72
              have e73 := hb 73
              simp only [List.getElem?_toArray, List.getElem?_cons_succ, List.getElem?_cons_zero] at e72 e73
              clear hb
              go_simp
              exact hKR _ (Gr.refl _)
            (try simp only [Act.put, List.setIfInBounds_toArray, List.set_cons_zero, List.set_cons_succ])
            refine c_val hX (v := ?_) 7 ({ dst := some 75, op := Go.Op.pick (Go.Operand.tmp 71) (Go.Operand.const (Go.Value.bool true)) (Go.Operand.tmp 74), type := 4, pos := "law.go:131", after := #[{ on := 3, ground := Go.Ground.data }, { on := 6, ground := Go.Ground.data }], guard := none }) hI (by kernel_rfl) (by kernel_rfl) rfl ?_ ?_
            rotate_left
            · intro bA hb W hI KR hKR
              have e71 := hb 71
              have e74 := hb 74
              simp only [List.getElem?_toArray, List.getElem?_cons_succ, List.getElem?_cons_zero] at e71 e74
              clear hb
              go_simp
              exact hKR _ (Gr.refl _)
            (try simp only [Act.put, List.setIfInBounds_toArray, List.set_cons_zero, List.set_cons_succ])
            refine c_val hX (v := ?_) 8 ({ dst := some 76, op := Go.Op.move (Go.Operand.tmp 75), type := 4, pos := "law.go:131", after := #[{ on := 7, ground := Go.Ground.data }, { on := 3, ground := Go.Ground.chain }], guard := none }) hI (by kernel_rfl) (by kernel_rfl) rfl ?_ ?_
            rotate_left
            · intro bA hb W hI KR hKR
              have e75 := hb 75
              simp only [List.getElem?_toArray, List.getElem?_cons_succ, List.getElem?_cons_zero] at e75
              clear hb
              go_simp
              exact hKR _ (Gr.refl _)
            (try simp only [Act.put, List.setIfInBounds_toArray, List.set_cons_zero, List.set_cons_succ])
            refine c_val hX (v := ?_) 9 ({ dst := some 77, op := Go.Op.move (Go.Operand.tmp 10), type := 54, pos := "law.go:131", after := #[{ on := 8, ground := Go.Ground.guard }], guard := some (8, false) }) hI (by kernel_rfl) (by kernel_rfl) (wanted_of (j := 8) (d := 76) rfl (by kernel_rfl) rfl) ?_ ?_
            rotate_left
            · intro bA hb W hI KR hKR
              have e10 := hb 10
              simp only [List.getElem?_toArray, List.getElem?_cons_succ, List.getElem?_cons_zero] at e10
              clear hb
              go_simp
              exact hKR _ (Gr.refl _)
            (try simp only [Act.put, List.setIfInBounds_toArray, List.set_cons_zero, List.set_cons_succ])
            refine c_val hX (v := ?_) 10 ({ dst := some 78, op := Go.Op.move (Go.Operand.tmp 12), type := 3, pos := "law.go:131", after := #[{ on := 8, ground := Go.Ground.guard }], guard := some (8, false) }) hI (by kernel_rfl) (by kernel_rfl) (wanted_of (j := 8) (d := 76) rfl (by kernel_rfl) rfl) ?_ ?_
            rotate_left
            · intro bA hb W hI KR hKR
              have e12 := hb 12
              simp only [List.getElem?_toArray, List.getElem?_cons_succ, List.getElem?_cons_zero] at e12
              clear hb
              go_simp
              exact hKR _ (Gr.refl _)
            (try simp only [Act.put, List.setIfInBounds_toArray, List.set_cons_zero, List.set_cons_succ])
            refine c_val hX (v := ?_) 11 ({ dst := some 79, op := Go.Op.indexAddr 54 (Go.Operand.tmp 77) (Go.Operand.tmp 78), type := 0, pos := "law.go:131", after := #[{ on := 9, ground := Go.Ground.data }, { on := 10, ground := Go.Ground.data }, { on := 8, ground := Go.Ground.guard }], guard := some (8, false) }) hI (by kernel_rfl) (by kernel_rfl) (wanted_of (j := 8) (d := 76) rfl (by kernel_rfl) rfl) ?_ ?_
            rotate_left
            · intro bA hb W hI KR hKR
              have e77 := hb 77
              have e78 := hb 78
              simp only [List.getElem?_toArray, List.getElem?_cons_succ, List.getElem?_cons_zero] at e77 e78
              clear hb
              go_simp
              exact hKR _ (Gr.refl _)
            (try simp only [Act.put, List.setIfInBounds_toArray, List.set_cons_zero, List.set_cons_succ])
            refine c_val hX (v := ?_) 12 ({ dst := some 80, op := Go.Op.load 55 (Go.Operand.tmp 79), type := 55, pos := "law.go:131", after := #[{ on := 11, ground := Go.Ground.data }, { on := 8, ground := Go.Ground.guard }], guard := some (8, false) }) hI (by kernel_rfl) (by kernel_rfl) (wanted_of (j := 8) (d := 76) rfl (by kernel_rfl) rfl) ?_ ?_
            rotate_left
            · intro bA hb W hI KR hKR
              have e79 := hb 79
              simp only [List.getElem?_toArray, List.getElem?_cons_succ, List.getElem?_cons_zero] at e79
              clear hb
              have cc := cell_below hI HC3.out
              go_simp
              exact hKR _ (hX.refl _)
            (try simp only [Act.put, List.setIfInBounds_toArray, List.set_cons_zero, List.set_cons_succ])
            refine c_val hX (v := ?_) 13 ({ dst := some 81, op := Go.Op.call { callee := Go.Callee.value (Go.Operand.func 24), args := #[Go.Operand.tmp 80], argTypes := #[55] }, type := 4, pos := "law.go:131", after := #[{ on := 12, ground := Go.Ground.data }, { on := 8, ground := Go.Ground.chain }, { on := 8, ground := Go.Ground.guard }], guard := some (8, false) }) hI (by kernel_rfl) (by kernel_rfl) (wanted_of (j := 8) (d := 76) rfl (by kernel_rfl) rfl) ?_ ?_
            rotate_left
            · intro bA hb W hI KR hKR
              have e80 := hb 80
              simp only [List.getElem?_toArray, List.getElem?_cons_succ, List.getElem?_cons_zero] at e80
              clear hb
              go_simp
              go_at_call 24
              refine (rising_any _ l _ (HRu.out.below hI) HL60.out).mono ?_
              rintro e w1 ⟨rfl, hb⟩
              rw [HRB.out]
              exact hKR _ hb
            (try simp only [Act.put, List.setIfInBounds_toArray, List.set_cons_zero, List.set_cons_succ])
            refine c_val hX (v := ?_) 14 ({ dst := some 82, op := Go.Op.move (Go.Operand.tmp 2), type := 54, pos := "law.go:131", after := #[{ on := 8, ground := Go.Ground.guard }], guard := some (8, false) }) hI (by kernel_rfl) (by kernel_rfl) (wanted_of (j := 8) (d := 76) rfl (by kernel_rfl) rfl) ?_ ?_
            rotate_left
            · intro bA hb W hI KR hKR
              have e2 := hb 2
              simp only [List.getElem?_toArray, List.getElem?_cons_succ, List.getElem?_cons_zero] at e2
              clear hb
              go_simp
              exact hKR _ (Gr.refl _)
            (try simp only [Act.put, List.setIfInBounds_toArray, List.set_cons_zero, List.set_cons_succ])
            refine c_val hX (v := ?_) 15 ({ dst := some 83, op := Go.Op.move (Go.Operand.tmp 12), type := 3, pos := "law.go:131", after := #[{ on := 8, ground := Go.Ground.guard }], guard := some (8, false) }) hI (by kernel_rfl) (by kernel_rfl) (wanted_of (j := 8) (d := 76) rfl (by kernel_rfl) rfl) ?_ ?_
            rotate_left
            · intro bA hb W hI KR hKR
              have e12 := hb 12
              simp only [List.getElem?_toArray, List.getElem?_cons_succ, List.getElem?_cons_zero] at e12
              clear hb
              go_simp
              exact hKR _ (Gr.refl _)
            (try simp only [Act.put, List.setIfInBounds_toArray, List.set_cons_zero, List.set_cons_succ])
            refine c_val hX (v := ?_) 16 ({ dst := some 84, op := Go.Op.indexAddr 54 (Go.Operand.tmp 82) (Go.Operand.tmp 83), type := 0, pos := "law.go:131", after := #[{ on := 14, ground := Go.Ground.data }, { on := 15, ground := Go.Ground.data }, { on := 8, ground := Go.Ground.guard }], guard := some (8, false) }) hI (by kernel_rfl) (by kernel_rfl) (wanted_of (j := 8) (d := 76) rfl (by kernel_rfl) rfl) ?_ ?_
            rotate_left
            · intro bA hb W hI KR hKR
              have e82 := hb 82
              have e83 := hb 83
              simp only [List.getElem?_toArray, List.getElem?_cons_succ, List.getElem?_cons_zero] at e82 e83
              clear hb
              go_simp
              exact hKR _ (Gr.refl _)
            (try simp only [Act.put, List.setIfInBounds_toArray, List.set_cons_zero, List.set_cons_succ])
            refine c_val hX (v := ?_) 17 ({ dst := some 85, op := Go.Op.load 55 (Go.Operand.tmp 84), type := 55, pos := "law.go:131", after := #[{ on := 16, ground := Go.Ground.data }, { on := 8, ground := Go.Ground.guard }], guard := some (8, false) }) hI (by kernel_rfl) (by kernel_rfl) (wanted_of (j := 8) (d := 76) rfl (by kernel_rfl) rfl) ?_ ?_
            rotate_left
            · intro bA hb W hI KR hKR
              have e84 := hb 84
              simp only [List.getElem?_toArray, List.getElem?_cons_succ, List.getElem?_cons_zero] at e84
              clear hb
              have cc := cell_below hI HC4.out
              go_simp
              exact hKR _ (hX.refl _)
            (try simp only [Act.put, List.setIfInBounds_toArray, List.set_cons_zero, List.set_cons_succ])
            refine c_val hX (v := ?_) 18 ({ dst := some 86, op := Go.Op.call { callee := Go.Callee.value (Go.Operand.func 25), args := #[Go.Operand.tmp 85], argTypes := #[55] }, type := 4, pos := "law.go:131", after := #[{ on := 17, ground := Go.Ground.data }, { on := 13, ground := Go.Ground.chain }, { on := 8, ground := Go.Ground.guard }], guard := some (8, false) }) hI (by kernel_rfl) (by kernel_rfl) (wanted_of (j := 8) (d := 76) rfl (by kernel_rfl) rfl) ?_ ?_
            rotate_left
            · intro bA hb W hI KR hKR
              have e85 := hb 85
              simp only [List.getElem?_toArray, List.getElem?_cons_succ, List.getElem?_cons_zero] at e85
              clear hb
              go_simp
              go_at_call 25
              refine (rrising_any _ l _ (HRl.out.below hI) HL60.out).mono ?_
              rintro e w1 ⟨rfl, hb⟩
              rw [HRB.out]
              exact hKR _ hb
            (try simp only [Act.put, List.setIfInBounds_toArray, List.set_cons_zero, List.set_cons_succ])
            refine c_val hX (v := ?_) 19 ({ dst := some 87, op := Go.Op.binOp Go.BinOp.neq 4 (Go.Operand.tmp 81) (Go.Operand.tmp 86) 4, type := 4, pos := "law.go:131", after := #[{ on := 13, ground := Go.Ground.data }, { on := 18, ground := Go.Ground.data }, { on := 8, ground := Go.Ground.guard }], guard := some (8, false) }) hI (by kernel_rfl) (by kernel_rfl) (wanted_of (j := 8) (d := 76) rfl (by kernel_rfl) rfl) ?_ ?_
            rotate_left
            · intro bA hb W hI KR hKR
              have e81 := hb 81
              have e86 := hb 86
              simp only [List.getElem?_toArray, List.getElem?_cons_succ, List.getElem?_cons_zero] at e81 e86
              clear hb
              go_simp
              exact hKR _ (Gr.refl _)
            (try simp only [Act.put, List.setIfInBounds_toArray, List.set_cons_zero, List.set_cons_succ])
            refine c_val hX (v := ?_) 20 ({ dst := some 88, op := Go.Op.pick (Go.Operand.tmp 76) (Go.Operand.const (Go.Value.bool true)) (Go.Operand.tmp 87), type := 4, pos := "law.go:131", after := #[{ on := 8, ground := Go.Ground.data }, { on := 19, ground := Go.Ground.data }], guard := none }) hI (by kernel_rfl) (by kernel_rfl) rfl ?_ ?_
            rotate_left
            · intro bA hb W hI KR hKR
              have e76 := hb 76
              have e87 := hb 87
              simp only [List.getElem?_toArray, List.getElem?_cons_succ, List.getElem?_cons_zero] at e76 e87
              clear hb
              go_simp
              exact hKR _ (Gr.refl _)
            (try simp only [Act.put, List.setIfInBounds_toArray, List.set_cons_zero, List.set_cons_succ])
            refine c_val hX (v := ?_) 21 ({ dst := some 89, op := Go.Op.move (Go.Operand.tmp 88), type := 4, pos := "law.go:131", after := #[{ on := 20, ground := Go.Ground.data }, { on := 18, ground := Go.Ground.chain }], guard := none }) hI (by kernel_rfl) (by kernel_rfl) rfl ?_ ?_
            rotate_left
            · intro bA hb W hI KR hKR
              have e88 := hb 88
              simp only [List.getElem?_toArray, List.getElem?_cons_succ, List.getElem?_cons_zero] at e88
              clear hb
              go_simp
              exact hKR _ (Gr.refl _)
            (try simp only [Act.put, List.setIfInBounds_toArray, List.set_cons_zero, List.set_cons_succ])
            refine c_val hX (v := ?_) 22 ({ dst := some 90, op := Go.Op.move (Go.Operand.tmp 10), type := 54, pos := "law.go:131", after := #[{ on := 21, ground := Go.Ground.guard }], guard := some (21, false) }) hI (by kernel_rfl) (by kernel_rfl) (wanted_of (j := 21) (d := 89) rfl (by kernel_rfl) rfl) ?_ ?_
            rotate_left
            · intro bA hb W hI KR hKR
              have e10 := hb 10
              simp only [List.getElem?_toArray, List.getElem?_cons_succ, List.getElem?_cons_zero] at e10
              clear hb
              go_simp
              exact hKR _ (Gr.refl _)
            (try simp only [Act.put, List.setIfInBounds_toArray, List.set_cons_zero, List.set_cons_succ])
            refine c_val hX (v := ?_) 23 ({ dst := some 91, op := Go.Op.move (Go.Operand.tmp 12), type := 3, pos := "law.go:131", after := #[{ on := 21, ground := Go.Ground.guard }], guard := some (21, false) }) hI (by kernel_rfl) (by kernel_rfl) (wanted_of (j := 21) (d := 89) rfl (by kernel_rfl) rfl) ?_ ?_
            rotate_left
            · intro bA hb W hI KR hKR
              have e12 := hb 12
              simp only [List.getElem?_toArray, List.getElem?_cons_succ, List.getElem?_cons_zero] at e12
              clear hb
              go_simp
              exact hKR _ (Gr.refl _)
            (try simp only [Act.put, List.setIfInBounds_toArray, List.set_cons_zero, List.set_cons_succ])
            refine c_val hX (v := ?_) 24 ({ dst := some 92, op := Go.Op.indexAddr 54 (Go.Operand.tmp 90) (Go.Operand.tmp 91), type := 0, pos := "law.go:131", after := #[{ on := 22, ground := Go.Ground.data }, { on := 23, ground := Go.Ground.data }, { on := 21, ground := Go.Ground.guard }], guard := some (21, false) }) hI (by kernel_rfl) (by kernel_rfl) (wanted_of (j := 21) (d := 89) rfl (by kernel_rfl) rfl) ?_ ?_
            rotate_left
            · intro bA hb W hI KR hKR
              have e90 := hb 90
              have e91 := hb 91
              simp only [List.getElem?_toArray, List.getElem?_cons_succ, List.getElem?_cons_zero] at e90 e91
              clear hb
              go_simp
              exact hKR _ (Gr.refl _)
            (try simp only [Act.put, List.setIfInBounds_toArray, List.set_cons_zero, List.set_cons_succ])
            refine c_val hX (v := ?_) 25 ({ dst := some 93, op := Go.Op.load 55 (Go.Operand.tmp 92), type := 55, pos := "law.go:131", after := #[{ on := 24, ground := Go.Ground.data }, { on := 21, ground := Go.Ground.guard }], guard := some (21, false) }) hI (by kernel_rfl) (by kernel_rfl) (wanted_of (j := 21) (d := 89) rfl (by kernel_rfl) rfl) ?_ ?_
            rotate_left
            · intro bA hb W hI KR hKR
              have e92 := hb 92
              simp only [List.getElem?_toArray, List.getElem?_cons_succ, List.getElem?_cons_zero] at e92
              clear hb
              have cc := cell_below hI HC3.out
              go_simp
              exact hKR _ (hX.refl _)
            (try simp only [Act.put, List.setIfInBounds_toArray, List.set_cons_zero, List.set_cons_succ])
            refine c_val hX (v := ?_) 26 ({ dst := some 94, op := Go.Op.move (Go.Operand.tmp 2), type := 54, pos := "law.go:131", after := #[{ on := 21, ground := Go.Ground.guard }], guard := some (21, false) }) hI (by kernel_rfl) (by kernel_rfl) (wanted_of (j := 21) (d := 89) rfl (by kernel_rfl) rfl) ?_ ?_
            rotate_left
            · intro bA hb W hI KR hKR
              have e2 := hb 2
              simp only [List.getElem?_toArray, List.getElem?_cons_succ, List.getElem?_cons_zero] at e2
              clear hb
              go_simp
              exact hKR _ (Gr.refl _)
            (try simp only [Act.put, List.setIfInBounds_toArray, List.set_cons_zero, List.set_cons_succ])
            refine c_val hX (v := ?_) 27 ({ dst := some 95, op := Go.Op.move (Go.Operand.tmp 12), type := 3, pos := "law.go:131", after := #[{ on := 21, ground := Go.Ground.guard }], guard := some (21, false) }) hI (by kernel_rfl) (by kernel_rfl) (wanted_of (j := 21) (d := 89) rfl (by kernel_rfl) rfl) ?_ ?_
            rotate_left
            · intro bA hb W hI KR hKR
              have e12 := hb 12
              simp only [List.getElem?_toArray, List.getElem?_cons_succ, List.getElem?_cons_zero] at e12
              clear hb
              go_simp
              exact hKR _ (Gr.refl _)
            (try simp only [Act.put, List.setIfInBounds_toArray, List.set_cons_zero, List.set_cons_succ])
            refine c_val hX (v := ?_) 28 ({ dst := some 96, op := Go.Op.indexAddr 54 (Go.Operand.tmp 94) (Go.Operand.tmp 95), type := 0, pos := "law.go:131", after := #[{ on := 26, ground := Go.Ground.data }, { on := 27, ground := Go.Ground.data }, { on := 21, ground := Go.Ground.guard }], guard := some (21, false) }) hI (by kernel_rfl) (by kernel_rfl) (wanted_of (j := 21) (d := 89) rfl (by kernel_rfl) rfl) ?_ ?_
            rotate_left
            · intro bA hb W hI KR hKR
              have e94 := hb 94
              have e95 := hb 95
              simp only [List.getElem?_toArray, List.getElem?_cons_succ, List.getElem?_cons_zero] at e94 e95
              clear hb
              go_simp
              exact hKR _ (Gr.refl _)
            (try simp only [Act.put, List.setIfInBounds_toArray, List.set_cons_zero, List.set_cons_succ])
            refine c_val hX (v := ?_) 29 ({ dst := some 97, op := Go.Op.load 55 (Go.Operand.tmp 96), type := 55, pos := "law.go:131", after := #[{ on := 28, ground := Go.Ground.data }, { on := 21, ground := Go.Ground.guard }], guard := some (21, false) }) hI (by kernel_rfl) (by kernel_rfl) (wanted_of (j := 21) (d := 89) rfl (by kernel_rfl) rfl) ?_ ?_
            rotate_left
            · intro bA hb W hI KR hKR
              have e96 := hb 96
              simp only [List.getElem?_toArray, List.getElem?_cons_succ, List.getElem?_cons_zero] at e96
              clear hb
              have cc := cell_below hI HC4.out
              go_simp
              exact hKR _ (hX.refl _)
            (try simp only [Act.put, List.setIfInBounds_toArray, List.set_cons_zero, List.set_cons_succ])
            refine c_val hX (v := ?_) 30 ({ dst := some 98, op := Go.Op.call { callee := Go.Callee.value (Go.Operand.func 20), args := #[Go.Operand.tmp 93, Go.Operand.tmp 97], argTypes := #[55, 55] }, type := 4, pos := "law.go:131", after := #[{ on := 25, ground := Go.Ground.data }, { on := 29, ground := Go.Ground.data }, { on := 21, ground := Go.Ground.chain }, { on := 21, ground := Go.Ground.guard }], guard := some (21, false) }) hI (by kernel_rfl) (by kernel_rfl) (wanted_of (j := 21) (d := 89) rfl (by kernel_rfl) rfl) ?_ ?_
            rotate_left
            · intro bA hb W hI KR hKR
              have e93 := hb 93
              have e97 := hb 97
              simp only [List.getElem?_toArray, List.getElem?_cons_succ, List.getElem?_cons_zero] at e93 e97
              clear hb
              go_simp
              go_at_call 20
              refine (same_any _ _ l l _ (HRu.out.below hI) (HRl.out.below hI) HL60.out HL60.out).mono ?_
              rintro e w1 ⟨rfl, hb⟩
              rw [decide_eq_true (rfl : l = l)]
              exact hKR _ hb
            (try simp only [Act.put, List.setIfInBounds_toArray, List.set_cons_zero, List.set_cons_succ])
            refine c_val hX (v := ?_) 31 ({ dst := some 99, op := Go.Op.unOp Go.UnOp.not 4 (Go.Operand.tmp 98), type := 4, pos := "law.go:131", after := #[{ on := 30, ground := Go.Ground.data }, { on := 21, ground := Go.Ground.guard }], guard := some (21, false) }) hI (by kernel_rfl) (by kernel_rfl) (wanted_of (j := 21) (d := 89) rfl (by kernel_rfl) rfl) ?_ ?_
            rotate_left
            · intro bA hb W hI KR hKR
              have e98 := hb 98
              simp only [List.getElem?_toArray, List.getElem?_cons_succ, List.getElem?_cons_zero] at e98
              clear hb
              go_simp
              exact hKR _ (Gr.refl _)
            (try simp only [Act.put, List.setIfInBounds_toArray, List.set_cons_zero, List.set_cons_succ])
            refine c_val hX (v := ?_) 32 ({ dst := some 100, op := Go.Op.pick (Go.Operand.tmp 89) (Go.Operand.const (Go.Value.bool true)) (Go.Operand.tmp 99), type := 4, pos := "law.go:131", after := #[{ on := 21, ground := Go.Ground.data }, { on := 31, ground := Go.Ground.data }], guard := none }) hI (by kernel_rfl) (by kernel_rfl) rfl ?_ ?_
            rotate_left
            · intro bA hb W hI KR hKR
              have e89 := hb 89
              have e99 := hb 99
              simp only [List.getElem?_toArray, List.getElem?_cons_succ, List.getElem?_cons_zero] at e89 e99
              clear hb
              go_simp
              exact hKR _ (Gr.refl _)
            (try simp only [Act.put, List.setIfInBounds_toArray, List.set_cons_zero, List.set_cons_succ])
            refine c_done (by kernel_rfl) ?_
            intro w9 hW
            refine hQ' _ _ ?_
            have hI := hX.keep hI hW
            clear hQ' hX hW
            have H9 := Lib.hid (bel HBq.out hI)
            have HQ9 := Lib.hid (HQ.out.below hI)
            clear H8
            go_wp2
            go_roundw
            case rel => exact ⟨i + 1, by go_num, by omega, HQ9, H9⟩
            case measure =>
              simp [intOf]
              omega
          · obtain rfl : N = i := by omega
            have HCAr := Lib.hid (range_below HBq.out HCA.out)
            have HCBr := Lib.hid (range_below HBq.out HCB.out)
            clear HQ HX HML HALL HFL HNL H0 R1 H HLE HB HCS
            go_wp2_with (first
              | (go_at_call 10; refine (items_any _ [xa, xb] _ (rowI_two (heap_alloc_new _ _)) (by simp)).mono ?_; rintro e w7 ⟨v7, rfl, r7, h7⟩; obtain ⟨A7, c7, rfl⟩ := own_slice r7; have R7 := Lib.hid r7; have H7 := Lib.hid (bel (below_alloc (Below.refl wr.heap.size wr) _) h7); clear r7 h7)
              | (refine wp_bs22 xa xb rfl (.tmp 101) (.tmp 102) rfl rfl rfl ?_)
              | (refine wpList_load_mid rfl 36 _ rfl _ 0 rfl (IS _).toList _ (by first | exact HCAr.out | exact HCBr.out) Try.underlying36 rfl (info36 _) ?_))
            have r7 := R7.out
            obtain ⟨g7, rfl, _⟩ := own_some r7 (by simp)
            have HY0 := Lib.hid (by have := row_range r7 (k := 0) (x := xa) rfl; exact this)
            have HY1 := Lib.hid (by have := row_range r7 (k := 1) (x := xb) rfl; exact this)
            have HCA7 := Lib.hid (range_below H7.out HCAr.out)
            have HCB7 := Lib.hid (range_below H7.out HCBr.out)
            obtain ⟨bb, hbb⟩ : ∃ bb, befB xa xb = bb := ⟨_, rfl⟩
            have HBB := Lib.hid hbb
            clear r7 hbb
            have HI0 := Lib.hid (bel HBq.out H7.out)
            go_wp2
            refine run_region (fn := Try.f6) (id := 20) (n := 15) [] (Bw w7) Gr (by kernel_rfl) (by kernel_rfl) (by kernel_rfl) (by kernel_rfl) Gr.refl (fun _ _ _ => Gr.trans) (fun _ _ h k => bel h k) ?_
            intro Q' hQ' hX
            have hI : (Bw w7) _ := below_drew1 (Below.refl _ _)
            refine c_val hX (v := ?_) 0 ({ dst := some 105, op := Go.Op.move (Go.Operand.tmp 17), type := 27, pos := "law.go:136", after := #[], guard := none }) hI (by kernel_rfl) (by kernel_rfl) rfl ?_ ?_
            rotate_left
            · intro bA hb W hI KR hKR
              have e17 := hb 17
              simp only [List.getElem?_toArray, List.getElem?_cons_succ, List.getElem?_cons_zero] at e17
              clear hb
              go_simp
              exact hKR _ (Gr.refl _)
            (try simp only [Act.put, List.setIfInBounds_toArray, List.set_cons_zero, List.set_cons_succ])
            refine c_val hX (v := ?_) 1 ({ dst := some 106, op := Go.Op.indexAddr 27 (Go.Operand.tmp 105) (Go.Operand.const (Go.Value.int Go.IntKind.i64 0)), type := 0, pos := "law.go:136", after := #[{ on := 0, ground := Go.Ground.data }], guard := none }) hI (by kernel_rfl) (by kernel_rfl) rfl ?_ ?_
            rotate_left
            · intro bA hb W hI KR hKR
              have e105 := hb 105
              simp only [List.getElem?_toArray, List.getElem?_cons_succ, List.getElem?_cons_zero] at e105
              clear hb
              go_simp
              exact hKR _ (Gr.refl _)
            (try simp only [Act.put, List.setIfInBounds_toArray, List.set_cons_zero, List.set_cons_succ])
            refine c_val hX (v := ?_) 2 ({ dst := some 107, op := Go.Op.load 40 (Go.Operand.tmp 106), type := 40, pos := "law.go:136", after := #[{ on := 1, ground := Go.Ground.data }], guard := none }) hI (by kernel_rfl) (by kernel_rfl) rfl ?_ ?_
            rotate_left
            · intro bA hb W hI KR hKR
              have e106 := hb 106
              simp only [List.getElem?_toArray, List.getElem?_cons_succ, List.getElem?_cons_zero] at e106
              clear hb
              refine wp_load_mid 40 (.tmp 106) rfl (g7) (0 * 3) (ev_tmp e106) (IS xa).toList _ (range_below hI HY0.out) Try.underlying40 rfl (info40 _) ?_
              exact hKR _ (hX.refl _)
            (try simp only [Act.put, List.setIfInBounds_toArray, List.set_cons_zero, List.set_cons_succ])
            refine c_val hX (v := ?_) 3 ({ dst := some 108, op := Go.Op.move (Go.Operand.tmp 17), type := 27, pos := "law.go:136", after := #[], guard := none }) hI (by kernel_rfl) (by kernel_rfl) rfl ?_ ?_
            rotate_left
            · intro bA hb W hI KR hKR
              have e17 := hb 17
              simp only [List.getElem?_toArray, List.getElem?_cons_succ, List.getElem?_cons_zero] at e17
              clear hb
              go_simp
              exact hKR _ (Gr.refl _)
            (try simp only [Act.put, List.setIfInBounds_toArray, List.set_cons_zero, List.set_cons_succ])
            refine c_val hX (v := ?_) 4 ({ dst := some 109, op := Go.Op.indexAddr 27 (Go.Operand.tmp 108) (Go.Operand.const (Go.Value.int Go.IntKind.i64 1)), type := 0, pos := "law.go:136", after := #[{ on := 3, ground := Go.Ground.data }], guard := none }) hI (by kernel_rfl) (by kernel_rfl) rfl ?_ ?_
            rotate_left
            · intro bA hb W hI KR hKR
              have e108 := hb 108
              simp only [List.getElem?_toArray, List.getElem?_cons_succ, List.getElem?_cons_zero] at e108
              clear hb
              go_simp
              exact hKR _ (Gr.refl _)
            (try simp only [Act.put, List.setIfInBounds_toArray, List.set_cons_zero, List.set_cons_succ])
            refine c_val hX (v := ?_) 5 ({ dst := some 110, op := Go.Op.load 40 (Go.Operand.tmp 109), type := 40, pos := "law.go:136", after := #[{ on := 4, ground := Go.Ground.data }], guard := none }) hI (by kernel_rfl) (by kernel_rfl) rfl ?_ ?_
            rotate_left
            · intro bA hb W hI KR hKR
              have e109 := hb 109
              simp only [List.getElem?_toArray, List.getElem?_cons_succ, List.getElem?_cons_zero] at e109
              clear hb
              refine wp_load_mid 40 (.tmp 109) rfl (g7) (1 * 3) (ev_tmp e109) (IS xb).toList _ (range_below hI HY1.out) Try.underlying40 rfl (info40 _) ?_
              exact hKR _ (hX.refl _)
            (try simp only [Act.put, List.setIfInBounds_toArray, List.set_cons_zero, List.set_cons_succ])
            refine c_val hX (v := ?_) 6 ({ dst := some 111, op := Go.Op.call { callee := Go.Callee.value (Go.Operand.func 17), args := #[Go.Operand.tmp 107, Go.Operand.tmp 110], argTypes := #[40, 40] }, type := 4, pos := "law.go:136", after := #[{ on := 2, ground := Go.Ground.data }, { on := 5, ground := Go.Ground.data }], guard := none }) hI (by kernel_rfl) (by kernel_rfl) rfl ?_ ?_
            rotate_left
            · intro bA hb W hI KR hKR
              have e107 := hb 107
              have e110 := hb 110
              simp only [List.getElem?_toArray, List.getElem?_cons_succ, List.getElem?_cons_zero] at e107 e110
              clear hb
              go_simp
              go_at_call 17
              refine (bef_any xa xb _).mono ?_
              rintro e w1 ⟨rfl, hb⟩
              rw [HBB.out]
              exact hKR _ hb
            (try simp only [Act.put, List.setIfInBounds_toArray, List.set_cons_zero, List.set_cons_succ])
            refine c_val hX (v := ?_) 7 ({ dst := some 112, op := Go.Op.load 36 (Go.Operand.tmp 4), type := 36, pos := "law.go:136", after := #[], guard := none }) hI (by kernel_rfl) (by kernel_rfl) rfl ?_ ?_
            rotate_left
            · intro bA hb W hI KR hKR
              have e4 := hb 4
              simp only [List.getElem?_toArray, List.getElem?_cons_succ, List.getElem?_cons_zero] at e4
              clear hb
              refine wp_load_mid 36 (.tmp 4) rfl (w.heap.size) (0) (ev_tmp e4) (IS xa).toList _ (range_below hI HCA7.out) Try.underlying36 rfl (info36 _) ?_
              exact hKR _ (hX.refl _)
            (try simp only [Act.put, List.setIfInBounds_toArray, List.set_cons_zero, List.set_cons_succ])
            refine c_val hX (v := ?_) 8 ({ dst := some 113, op := Go.Op.load 36 (Go.Operand.tmp 5), type := 36, pos := "law.go:136", after := #[], guard := none }) hI (by kernel_rfl) (by kernel_rfl) rfl ?_ ?_
            rotate_left
            · intro bA hb W hI KR hKR
              have e5 := hb 5
              simp only [List.getElem?_toArray, List.getElem?_cons_succ, List.getElem?_cons_zero] at e5
              clear hb
              refine wp_load_mid 36 (.tmp 5) rfl (w.heap.size + 1) (0) (ev_tmp e5) (IS xb).toList _ (range_below hI HCB7.out) Try.underlying36 rfl (info36 _) ?_
              exact hKR _ (hX.refl _)
            (try simp only [Act.put, List.setIfInBounds_toArray, List.set_cons_zero, List.set_cons_succ])
            refine c_val hX (v := ?_) 9 ({ dst := some 114, op := Go.Op.call { callee := Go.Callee.value (Go.Operand.func 26), args := #[Go.Operand.tmp 112, Go.Operand.tmp 113], argTypes := #[36, 36] }, type := 4, pos := "law.go:136", after := #[{ on := 7, ground := Go.Ground.data }, { on := 8, ground := Go.Ground.data }, { on := 6, ground := Go.Ground.chain }], guard := none }) hI (by kernel_rfl) (by kernel_rfl) rfl ?_ ?_
            rotate_left
            · intro bA hb W hI KR hKR
              have e112 := hb 112
              have e113 := hb 113
              simp only [List.getElem?_toArray, List.getElem?_cons_succ, List.getElem?_cons_zero] at e112 e113
              clear hb
              go_simp
              go_at_call 26
              refine (rbef_any xa xb _).mono ?_
              rintro e w1 ⟨rfl, hb⟩
              rw [HBB.out]
              exact hKR _ hb
            (try simp only [Act.put, List.setIfInBounds_toArray, List.set_cons_zero, List.set_cons_succ])
            refine c_val hX (v := ?_) 10 ({ dst := some 115, op := Go.Op.binOp Go.BinOp.eql 4 (Go.Operand.tmp 111) (Go.Operand.tmp 114) 4, type := 4, pos := "law.go:136", after := #[{ on := 6, ground := Go.Ground.data }, { on := 9, ground := Go.Ground.data }], guard := none }) hI (by kernel_rfl) (by kernel_rfl) rfl ?_ ?_
            rotate_left
            · intro bA hb W hI KR hKR
              have e111 := hb 111
              have e114 := hb 114
              simp only [List.getElem?_toArray, List.getElem?_cons_succ, List.getElem?_cons_zero] at e111 e114
              clear hb
              go_simp
              exact hKR _ (Gr.refl _)
            (try simp only [Act.put, List.setIfInBounds_toArray, List.set_cons_zero, List.set_cons_succ])
            refine c_val hX (v := ?_) 11 ({ dst := some 116, op := Go.Op.move (Go.Operand.tmp 115), type := 4, pos := "law.go:136", after := #[{ on := 10, ground := Go.Ground.data }, { on := 9, ground := Go.Ground.chain }], guard := none }) hI (by kernel_rfl) (by kernel_rfl) rfl ?_ ?_
            rotate_left
            · intro bA hb W hI KR hKR
              have e115 := hb 115
              simp only [List.getElem?_toArray, List.getElem?_cons_succ, List.getElem?_cons_zero] at e115
              clear hb
              go_simp
              exact hKR _ (Gr.refl _)
            (try simp only [Act.put, List.setIfInBounds_toArray, List.set_cons_zero, List.set_cons_succ])
            refine c_val hX (v := ?_) 12 ({ dst := some 117, op := Go.Op.call { callee := Go.Callee.value (Go.Operand.func 8), args := #[], argTypes := #[] }, type := 4, pos := "law.go:136", after := #[{ on := 11, ground := Go.Ground.chain }, { on := 11, ground := Go.Ground.guard }], guard := some (11, true) }) hI (by kernel_rfl) (by kernel_rfl) (wanted_of (j := 11) (d := 116) rfl (by kernel_rfl) rfl) ?_ ?_
            rotate_left
            · intro bA hb W hI KR hKR
              clear hb
              go_simp
              go_at_call 8
              refine (knows_is _).mono ?_
              rintro e w1 ⟨rfl, hb⟩
              exact hKR _ hb
            (try simp only [Act.put, List.setIfInBounds_toArray, List.set_cons_zero, List.set_cons_succ])
            refine c_val hX (v := ?_) 13 ({ dst := some 118, op := Go.Op.pick (Go.Operand.tmp 116) (Go.Operand.tmp 117) (Go.Operand.const (Go.Value.bool false)), type := 4, pos := "law.go:136", after := #[{ on := 11, ground := Go.Ground.data }, { on := 12, ground := Go.Ground.data }], guard := none }) hI (by kernel_rfl) (by kernel_rfl) rfl ?_ ?_
            rotate_left
            · intro bA hb W hI KR hKR
              have e116 := hb 116
              have e117 := hb 117
              simp only [List.getElem?_toArray, List.getElem?_cons_succ, List.getElem?_cons_zero] at e116 e117
              clear hb
              go_simp
              exact hKR _ (Gr.refl _)
            (try simp only [Act.put, List.setIfInBounds_toArray, List.set_cons_zero, List.set_cons_succ])
            refine c_val hX (v := ?_) 14 ({ dst := some 8, op := Go.Op.assign (Go.Operand.tmp 118), type := 4, pos := "law.go:136", after := #[{ on := 13, ground := Go.Ground.data }, { on := 12, ground := Go.Ground.chain }, { on := 0, ground := Go.Ground.phase }, { on := 1, ground := Go.Ground.phase }, { on := 2, ground := Go.Ground.phase }, { on := 3, ground := Go.Ground.phase }, { on := 4, ground := Go.Ground.phase }, { on := 5, ground := Go.Ground.phase }, { on := 6, ground := Go.Ground.phase }, { on := 7, ground := Go.Ground.phase }, { on := 8, ground := Go.Ground.phase }, { on := 9, ground := Go.Ground.phase }, { on := 10, ground := Go.Ground.phase }, { on := 11, ground := Go.Ground.phase }, { on := 12, ground := Go.Ground.phase }, { on := 13, ground := Go.Ground.phase }], guard := none }) hI (by kernel_rfl) (by kernel_rfl) rfl ?_ ?_
            rotate_left
            · intro bA hb W hI KR hKR
              have e118 := hb 118
              simp only [List.getElem?_toArray, List.getElem?_cons_succ, List.getElem?_cons_zero] at e118
              clear hb
              go_simp
              exact hKR _ (Gr.refl _)
            (try simp only [Act.put, List.setIfInBounds_toArray, List.set_cons_zero, List.set_cons_succ])
            refine c_done (by kernel_rfl) ?_
            intro w8 hW
            refine hQ' _ _ ?_
            have hI := hX.keep hI hW
            clear hQ' hX hW
            go_wp2
            go_ret
            exact ⟨rfl, bel (bel HB0.out HI0.out) hI⟩
  · have g1 : (20 : Int) < (N : Int) := by omega
    go_wp2_with (go_at_call 8; refine (knows_is _).mono ?_; rintro e w2 ⟨rfl, hb⟩)
    go_ret
    exact ⟨rfl, by (repeat (first | with_reducible exact Below.refl _ _ | with_reducible apply below_alloc | with_reducible apply below_drew1 | with_reducible assumption | (with_reducible refine Keep.below (by assumption)) | (with_reducible refine bel ?_ (by assumption)) | ((with_reducible refine below_set ?_ ?_); rotate_left; (focus (first | assumption | omega | (simp; done) | (simp; omega))))))⟩
end Go.Proofs.Ytndfoohdoadkfaa
