/- The document's queue: Peek, Pop, Push. -/
import Derived.Test.YtndfoohdoadkfaaPA
set_option linter.unusedVariables false
set_option linter.unusedSimpArgs false
namespace Go.Proofs.Ytndfoohdoadkfaa
open Go.RowKit
def MinAt (ys : List It) (m : Nat) : Prop := m < ys.length ∧ ∀ k, k < ys.length → le (at_ ys m) (at_ ys k)
theorem fst_nil {n : Int} (h : Fst [] n) : n = -1 := by
  rcases h with ⟨_, h⟩ | ⟨m, _, h, _⟩
  · exact h
  · simp at h
theorem fst_cons {ys : List It} {n : Int} (h : Fst ys n) (h0 : ys ≠ []) : ∃ m : Nat, n = m ∧ MinAt ys m := by
  rcases h with ⟨h, _⟩ | ⟨m, h1, h2, h3⟩
  · exact absurd h h0
  · exact ⟨m, h1, h2, h3⟩
theorem rv_own_ne {W : World} {base g : Nat} {u : Value} {ys : List It} (h : RV W base g u ys) : u.ownBlock ≠ some g := by
  rcases h.row.2 with ⟨rfl, _⟩ | ⟨g', cap, cur, rfl, _, hh, _⟩
  · simp [Value.ownBlock]
  · intro e
    have e' : g' = g := by simpa [Value.ownBlock] using e
    subst e'
    have := h.blk
    rw [hh] at this
    injection this with this
    injection this with _ this
    cases this
def ZI : Array Value := #[.int .i64 0, .int .i64 0, .int .i64 0]
set_option maxHeartbeats 1000000 in
theorem rpeek0 (base g : Nat) (u : Value) (w : World) (h : RV w base g u []) : Calls Try.prog 31 #[.pointer (some ⟨g, 0, none⟩)] w fun e w' => e = .returned (.tuple #[.agg (IS I0), .bool false]) ∧ Below w.heap.size w w' := by
  have H := Lib.hid (h.below (below_alloc (Below.refl w.heap.size w) (.cells #[.int .i64 0, .int .i64 0, .int .i64 0] 36)))
  clear h
  go_enter Try.func31, Try.ntmps31
  go_wp2_with (first
    | (go_at_call 41; refine (first_any base g u [] _ H.out (by simp)).mono ?_; rintro e w1 ⟨n, rfl, hF, hb⟩; obtain rfl := fst_nil hF; have hB := Lib.hid (bel (below_alloc (Below.refl _ _) _) hb); have HR := Lib.hid ((hb.block w.heap.size (by simp)).trans (heap_alloc_new w _)); clear hb hF)
    | (refine wpList_store_whole rfl 36 (.tmp 2) (.tmp 9) rfl w.heap.size (IS I0) #[.int .i64 0, .int .i64 0, .int .i64 0] 36 rfl rfl HR.out rfl (info36 I0) (by kernel_rfl) ?_; intro w3 hnew hsz hfar hbel; have HR := Lib.hid hnew; have hB := Lib.hid (hbel _ _ (Nat.le_refl _) hB.out); clear hnew hsz hfar hbel))
  have c0 := cell_of_heap HR.out (j := 0) rfl
  have c1 := cell_of_heap HR.out (j := 1) rfl
  have c2 := cell_of_heap HR.out (j := 2) rfl
  exact bodyPost_ret (v := .tuple #[.agg #[.int .i64 0, .int .i64 0, .int .i64 0], .bool false]) (by simp [results, Try.results31, go_sem, IS, I0, *]) rfl ⟨rfl, hB.out⟩
set_option maxHeartbeats 1000000 in
theorem rpeek (base g : Nat) (u : Value) (ys : List It) (w : World) (h : RV w base g u ys) (h0 : ys ≠ []) (hl : ys.length ≤ 2000000) : Calls Try.prog 31 #[.pointer (some ⟨g, 0, none⟩)] w fun e w' => ∃ m, MinAt ys m ∧ e = .returned (.tuple #[.agg (IS (at_ ys m)), .bool true]) ∧ Below w.heap.size w w' := by
  have H := Lib.hid (h.below (below_alloc (Below.refl w.heap.size w) (.cells #[.int .i64 0, .int .i64 0, .int .i64 0] 36)))
  have hn : 0 < ys.length := List.length_pos_iff.2 h0
  obtain ⟨A, c, rfl⟩ := own_slice h.row
  obtain ⟨g1, rfl, _⟩ := own_some h.row hn
  obtain ⟨N, hN⟩ : ∃ N, N = ys.length := ⟨_, rfl⟩
  have HN := Lib.hid hN
  have H0 := Lib.hid h0
  have HL := Lib.hid hl
  clear h h0 hn hl hN
  go_enter Try.func31, Try.ntmps31
  go_wp2_with (first
    | (go_at_call 41; refine (first_any base g _ ys _ H.out HL.out).mono ?_; rintro e w1 ⟨n, rfl, hF, hb⟩; obtain ⟨m, rfl, hm⟩ := fst_cons hF H0.out; have hB := Lib.hid (bel (below_alloc (Below.refl _ _) _) hb); have HR := Lib.hid ((hb.block w.heap.size (by simp)).trans (heap_alloc_new w _)); have H := Lib.hid (H.out.below hb); have HM := Lib.hid hm; have hmN : m < ys.length := hm.1; have hmi : ¬ ((m : Int) < 0) := (by omega); have cg : w1.cell? ⟨g, 0, none⟩ = some (.slice (some ⟨g1, 0, none⟩) ys.length c) := cell_of_heap H.out.blk (j := 0) rfl; have HX := Lib.hid (row_range H.out.row (at_get hmN)); clear hb hF)
    | (refine wpList_load_mid rfl 36 (.tmp 15) rfl g1 (m * 3) rfl (IS (at_ ys m)).toList _ HX.out Try.underlying36 rfl (info36 _) ?_)
    | (refine wpList_store_whole rfl 36 (.tmp 2) (.tmp 16) rfl w.heap.size (IS (at_ ys m)) #[.int .i64 0, .int .i64 0, .int .i64 0] 36 rfl rfl HR.out rfl (info36 _) (by kernel_rfl) ?_; intro w3 hnew hsz hfar hbel; have HR := Lib.hid hnew; have hB := Lib.hid (hbel _ _ (Nat.le_refl _) hB.out); clear hnew hsz hfar hbel))
  have c0 : w3.cell? ⟨w.heap.size, 0, none⟩ = some (.int .i64 (at_ ys m).t) := cell_of_heap HR.out (j := 0) rfl
  have c1 : w3.cell? ⟨w.heap.size, 1, none⟩ = some (.int .i64 (at_ ys m).r) := cell_of_heap HR.out (j := 1) rfl
  have c2 : w3.cell? ⟨w.heap.size, 2, none⟩ = some (.int .i64 (at_ ys m).g) := cell_of_heap HR.out (j := 2) rfl
  exact bodyPost_ret (v := .tuple #[.agg #[.int .i64 (at_ ys m).t, .int .i64 (at_ ys m).r, .int .i64 (at_ ys m).g], .bool true]) (by simp [results, Try.results31, go_sem, *]) rfl ⟨m, HM.out, rfl, hB.out⟩
theorem Nz.lo3 {A : Option Addr} {n c k : Nat} (h : Nz (.slice A n c)) (hk : k ≤ n) : Nz (.slice (if c = k then A else A.map (·.add (k * 3))) (n - k) (c - k)) := by
  rcases h with e | ⟨a, n', c', e⟩
  · injection e with e1 e2 e3
    subst e1 e2 e3
    left
    simp
  · injection e with e1 e2 e3
    subst e1
    right
    split
    · exact ⟨_, _, _, rfl⟩
    · exact ⟨_, _, _, rfl⟩
theorem own_empty36 (W : World) (base : Nat) (hb : base ≤ W.heap.size) : (W.alloc (.cells #[] 36)).ownsRow base 36 3 (.slice (some ⟨W.heap.size, 0, none⟩) 0 0) ([] : List It).length (cellsI []) :=
  ⟨rfl, .inr ⟨W.heap.size, 0, #[], rfl, hb, heap_alloc_new W _, Nat.le_refl _, by simp [maxLen], rfl, rfl⟩⟩
theorem RowI.take {W : World} {A : Option Addr} {n c : Nat} {xs : List It} (h : RowI W (.slice A n c) xs) {k : Nat} (hk : k ≤ xs.length) : RowI W (.slice A k c) (xs.take k) := by
  obtain ⟨A', c', e, hc, hr⟩ := h
  injection e with e1 e2 e3
  subst e1 e3
  have hl : (xs.take k).length = k := by simp; omega
  refine ⟨A, c, by rw [hl], by omega, fun h0 => ?_⟩
  obtain ⟨g, o, e, hr⟩ := hr (by omega)
  refine ⟨g, o, e, fun j s hj => hr j s ?_⟩
  rw [List.getElem?_take] at hj
  split at hj
  · exact hj
  · cases hj
theorem RowI.drop {W : World} {A : Option Addr} {n c : Nat} {xs : List It} (h : RowI W (.slice A n c) xs) {k : Nat} (hk : k ≤ xs.length) : RowI W (.slice (if c = k then A else A.map (·.add (k * 3))) (n - k) (c - k)) (xs.drop k) := by
  obtain ⟨A', c', e, hc, hr⟩ := h
  injection e with e1 e2 e3
  subst e1 e2 e3
  have hl : (xs.drop k).length = xs.length - k := by simp
  refine ⟨_, _, by rw [hl], by omega, fun h0 => ?_⟩
  obtain ⟨g, o, e, hr2⟩ := hr (by omega)
  subst e
  refine ⟨g, o + k * 3, by rw [if_neg (by omega), Option.map_some, Addr.add_mid], fun j s hj => ?_⟩
  rw [List.getElem?_drop] at hj
  have := hr2 (k + j) s hj
  rwa [show o + (k + j) * 3 = o + k * 3 + j * 3 by omega] at this
/-- The new slice in its place. -/
theorem pq_fresh {base g : Nat} {u v' : Value} {w W : World} {ys : List It} (hB : Below w.heap.size w W) (ho : W.ownsRow w.heap.size 36 3 v' ys.length (cellsI ys)) (hb : base ≤ w.heap.size) : Pq base g u w v' (W.setCell ⟨g, 0, none⟩ v') :=
  ⟨by simpa using hB.size, fun k hk hne _ => (set_ne hne rfl).trans (hB.block k hk), fun k hk => .inr (own_lt ho k hk).1, fun B w0 h1 h2 h3 => (h3.trans (hB.mono (by omega))).setCell (p := ⟨g, 0, none⟩) h2 v'⟩
theorem rv_fresh {base g : Nat} {u v' : Value} {w W : World} {ys : List It} (hg : W.heap[g]? = some (.cells #[u] 31 (0, 0))) (ho : W.ownsRow w.heap.size 36 3 v' ys.length (cellsI ys)) (hgw : g < w.heap.size) (hb : base ≤ w.heap.size) : RV (W.setCell ⟨g, 0, none⟩ v') base g v' ys :=
  ⟨set_same hg, own_base (own_set ho (fun e => by have := (own_lt ho g e).1; omega)) hb⟩
theorem RV.rw {W W' : World} {base g t : Nat} {u : Value} {ys : List It} (h : RV W base g u ys) (r : Rw t W W') (h1 : t ≠ g) (h2 : u.ownBlock ≠ some t) : RV W' base g u ys := by
  refine ⟨(r.far g (Ne.symm h1)).trans h.blk, ?_⟩
  rcases h.row.2 with e | ⟨g', cap, cur, e, hg, hh, q⟩
  · exact ⟨h.row.1, .inl e⟩
  · subst e
    exact ⟨h.row.1, .inr ⟨g', cap, cur, rfl, hg, (r.far g' (fun e => h2 (by simp [Value.ownBlock, e]))).trans hh, q⟩⟩
set_option maxHeartbeats 1000000 in
theorem rpop0 (base g : Nat) (u : Value) (w : World) (h : RV w base g u []) : Calls Try.prog 30 #[.pointer (some ⟨g, 0, none⟩)] w fun e w' => e = .returned (.tuple #[.agg (IS I0), .bool false]) ∧ Below w.heap.size w w' := by
  have H := Lib.hid (h.below (below_alloc (Below.refl w.heap.size w) (.cells #[.int .i64 0, .int .i64 0, .int .i64 0] 36)))
  clear h
  go_enter Try.func30, Try.ntmps30
  go_wp2_with (first
    | (go_at_call 41; refine (first_any base g u [] _ H.out (by simp)).mono ?_; rintro e w1 ⟨n, rfl, hF, hb⟩; obtain rfl := fst_nil hF; have hB := Lib.hid (bel (below_alloc (Below.refl _ _) _) hb); have HR := Lib.hid ((hb.block w.heap.size (by simp)).trans (heap_alloc_new w _)); clear hb hF)
    | (refine wpList_store_whole rfl 36 (.tmp 2) (.tmp 10) rfl w.heap.size (IS I0) #[.int .i64 0, .int .i64 0, .int .i64 0] 36 rfl rfl HR.out rfl (info36 I0) (by kernel_rfl) ?_; intro w3 hnew hsz hfar hbel; have HR := Lib.hid hnew; have hB := Lib.hid (hbel _ _ (Nat.le_refl _) hB.out); clear hnew hsz hfar hbel))
  have c0 := cell_of_heap HR.out (j := 0) rfl
  have c1 := cell_of_heap HR.out (j := 1) rfl
  have c2 := cell_of_heap HR.out (j := 2) rfl
  exact bodyPost_ret (v := .tuple #[.agg #[.int .i64 0, .int .i64 0, .int .i64 0], .bool false]) (by simp [results, Try.results30, go_sem, IS, I0, *]) rfl ⟨rfl, hB.out⟩
set_option maxRecDepth 10000 in
set_option maxHeartbeats 4000000 in
theorem rpop (base g : Nat) (u : Value) (ys : List It) (w : World) (h : RV w base g u ys) (hbase : base ≤ w.heap.size) (h0 : ys ≠ []) (hl : ys.length ≤ 1000000) : Calls Try.prog 30 #[.pointer (some ⟨g, 0, none⟩)] w fun e w' => ∃ m, MinAt ys m ∧ e = .returned (.tuple #[.agg (IS (at_ ys m)), .bool true]) ∧ ∃ u', RV w' base g u' (ys.take m ++ ys.drop (m + 1)) ∧ Pq base g u w u' w' := by
  have H := Lib.hid (h.below (below_alloc (Below.refl w.heap.size w) (.cells #[.int .i64 0, .int .i64 0, .int .i64 0] 36)))
  have hn : 0 < ys.length := List.length_pos_iff.2 h0
  have hgw := heap_lt h.blk
  obtain ⟨A, c, rfl⟩ := own_slice h.row
  obtain ⟨g1, rfl, _⟩ := own_some h.row hn
  have hNc := own_le h.row
  have HZn := Lib.hid (nz_own h.row)
  obtain ⟨N, hN⟩ : ∃ N, N = ys.length := ⟨_, rfl⟩
  have HN := Lib.hid hN
  have H0 := Lib.hid h0
  have HL := Lib.hid hl
  have HBS := Lib.hid hbase
  clear h h0 hn hl hbase
  rw [← hN] at hNc HZn
  go_enter Try.func30, Try.ntmps30
  go_wp2_with (first
    | (go_at_call 41; refine (first_any base g _ ys _ H.out (by have := HL.out; omega)).mono ?_; rintro e w1 ⟨n, rfl, hF, hb⟩; obtain ⟨m, rfl, hm⟩ := fst_cons hF H0.out; have hB := Lib.hid (bel (below_alloc (Below.refl _ _) _) hb); have HR := Lib.hid ((hb.block w.heap.size (by simp)).trans (heap_alloc_new w _)); have H := Lib.hid (H.out.below hb); have HM := Lib.hid hm; have hmN : m < N := (by rw [hN]; exact hm.1); have hmi : ¬ ((m : Int) < 0) := (by omega); have cg : w1.cell? ⟨g, 0, none⟩ = some (.slice (some ⟨g1, 0, none⟩) N c) := (by rw [hN]; exact cell_of_heap H.out.blk (j := 0) rfl); have HX := Lib.hid (row_range H.out.row (at_get hm.1)); clear hb hF)
    | (refine wpList_load_mid rfl 36 (.tmp 16) rfl g1 (m * 3) rfl (IS (at_ ys m)).toList _ HX.out Try.underlying36 rfl (info36 _) ?_)
    | (refine wpList_store_whole rfl 36 (.tmp 5) (.tmp 17) rfl w1.heap.size (IS (at_ ys m)) #[.int .i64 0, .int .i64 0, .int .i64 0] 36 rfl rfl (heap_alloc_new w1 _) rfl (info36 _) (by kernel_rfl) ?_; intro w2 hnew hsz hfar hbel; have HX5 := Lib.hid hnew; have hb2 := hbel _ _ (Nat.le_refl _) (below_alloc (Below.refl w1.heap.size w1) _); have hz5 := heap_lt HR.out; have HR := Lib.hid ((hb2.block w.heap.size hz5).trans HR.out); have H := Lib.hid (H.out.below hb2); have hB := Lib.hid (bel hB.out hb2); clear hnew hsz hfar hbel hb2))
  have cg2 : w2.cell? ⟨g, 0, none⟩ = some (.slice (some ⟨g1, 0, none⟩) N c) := by rw [hN]; exact cell_of_heap H.out.blk (j := 0) rfl
  have CG := Lib.hid cg2
  have hw1 : IntKind.i64.wrap ((m : Int) + 1) = (m : Int) + 1 := IntWalk.i64_in _ (by have := HL.out; omega)
  have HM1 := Lib.hid (show m ≤ ys.length from by rw [← HN.out]; omega)
  have HM2 := Lib.hid (show m + 1 ≤ ys.length from by rw [← HN.out]; omega)
  have HG2 := Lib.hid H.out.blk
  have HRow := Lib.hid (show RowI w2 (.slice (some ⟨g1, 0, none⟩) N c) ys from by rw [hN]; exact RowI.ownT H.out.row)
  have hl1 : (ys.take m).length ≤ 1000000 := by have := HL.out; simp; omega
  have hl2 : (ys.drop (m + 1)).length ≤ 1000000 := by have := HL.out; simp; omega
  obtain ⟨zs, hzs⟩ : ∃ zs, zs = ys.take m ++ ys.drop (m + 1) := ⟨_, rfl⟩
  have HZS := Lib.hid hzs
  have HL1 := Lib.hid hl1
  have HL2 := Lib.hid hl2
  have hg2 : g < w2.heap.size := heap_lt H.out.blk
  have HW2 := Lib.hid hB.out
  clear cg cg2 hN hl1 hl2 hzs
  refine run_region (fn := Try.f30) (id := 5) (n := 20) [19] (Bw w2) Gr (by kernel_rfl) (by kernel_rfl) (by kernel_rfl) (by kernel_rfl) Gr.refl (fun _ _ _ => Gr.trans) (fun _ _ h k => bel h k) ?_
  intro Q' hQ' hX
  have hI : (Bw w2) _ := below_drew1 (Below.refl _ _)
  (try simp only [Act.put, List.setIfInBounds_toArray, List.set_cons_zero, List.set_cons_succ])
  refine c_val hX (v := ?_) 0 ({ dst := some 18, op := Go.Op.move (Go.Operand.tmp 0), type := 29, pos := "ref.go:70", after := #[], guard := none }) hI (by kernel_rfl) (by kernel_rfl) rfl ?_ ?_
  rotate_left
  · intro bA hb W hI KR hKR
    have e0 := hb 0
    simp only [List.getElem?_toArray, List.getElem?_cons_succ, List.getElem?_cons_zero] at e0
    clear hb
    go_simp
    exact hKR _ (Gr.refl _)
  (try simp only [Act.put, List.setIfInBounds_toArray, List.set_cons_zero, List.set_cons_succ])
  refine c_val hX (v := ?_) 2 ({ dst := some 20, op := Go.Op.move (Go.Operand.tmp 0), type := 29, pos := "ref.go:70", after := #[], guard := none }) hI (by kernel_rfl) (by kernel_rfl) rfl ?_ ?_
  rotate_left
  · intro bA hb W hI KR hKR
    have e0 := hb 0
    simp only [List.getElem?_toArray, List.getElem?_cons_succ, List.getElem?_cons_zero] at e0
    clear hb
    go_simp
    exact hKR _ (Gr.refl _)
  (try simp only [Act.put, List.setIfInBounds_toArray, List.set_cons_zero, List.set_cons_succ])
  refine c_val hX (v := ?_) 3 ({ dst := some 21, op := Go.Op.nilCheck (Go.Operand.tmp 20), type := 0, pos := "ref.go:70", after := #[{ on := 2, ground := Go.Ground.data }], guard := none }) hI (by kernel_rfl) (by kernel_rfl) rfl ?_ ?_
  rotate_left
  · intro bA hb W hI KR hKR
    have e20 := hb 20
    simp only [List.getElem?_toArray, List.getElem?_cons_succ, List.getElem?_cons_zero] at e20
    clear hb
    go_simp
    exact hKR _ (Gr.refl _)
  (try simp only [Act.put, List.setIfInBounds_toArray, List.set_cons_zero, List.set_cons_succ])
  refine c_val hX (v := ?_) 4 ({ dst := some 22, op := Go.Op.fieldAddr 31 (Go.Operand.tmp 21) 0, type := 0, pos := "ref.go:70", after := #[{ on := 3, ground := Go.Ground.data }], guard := none }) hI (by kernel_rfl) (by kernel_rfl) rfl ?_ ?_
  rotate_left
  · intro bA hb W hI KR hKR
    have e21 := hb 21
    simp only [List.getElem?_toArray, List.getElem?_cons_succ, List.getElem?_cons_zero] at e21
    clear hb
    go_simp
    exact hKR _ (Gr.refl _)
  (try simp only [Act.put, List.setIfInBounds_toArray, List.set_cons_zero, List.set_cons_succ])
  refine c_val hX (v := ?_) 5 ({ dst := some 23, op := Go.Op.load 22 (Go.Operand.tmp 22), type := 22, pos := "ref.go:70", after := #[{ on := 4, ground := Go.Ground.data }], guard := none }) hI (by kernel_rfl) (by kernel_rfl) rfl ?_ ?_
  rotate_left
  · intro bA hb W hI KR hKR
    have e22 := hb 22
    simp only [List.getElem?_toArray, List.getElem?_cons_succ, List.getElem?_cons_zero] at e22
    clear hb
    have cc := cell_below hI CG.out
    go_simp
    exact hKR _ (hX.refl _)
  (try simp only [Act.put, List.setIfInBounds_toArray, List.set_cons_zero, List.set_cons_succ])
  refine c_val hX (v := ?_) 6 ({ dst := some 24, op := Go.Op.move (Go.Operand.tmp 4), type := 3, pos := "ref.go:70", after := #[], guard := none }) hI (by kernel_rfl) (by kernel_rfl) rfl ?_ ?_
  rotate_left
  · intro bA hb W hI KR hKR
    have e4 := hb 4
    simp only [List.getElem?_toArray, List.getElem?_cons_succ, List.getElem?_cons_zero] at e4
    clear hb
    go_simp
    exact hKR _ (Gr.refl _)
  (try simp only [Act.put, List.setIfInBounds_toArray, List.set_cons_zero, List.set_cons_succ])
  refine c_val hX (v := ?_) 7 ({ dst := some 25, op := Go.Op.slice 22 (Go.Operand.tmp 23) none (some (Go.Operand.tmp 24)) none, type := 22, pos := "ref.go:70", after := #[{ on := 5, ground := Go.Ground.data }, { on := 6, ground := Go.Ground.data }], guard := none }) hI (by kernel_rfl) (by kernel_rfl) rfl ?_ ?_
  rotate_left
  · intro bA hb W hI KR hKR
    have e23 := hb 23
    have e24 := hb 24
    simp only [List.getElem?_toArray, List.getElem?_cons_succ, List.getElem?_cons_zero] at e23 e24
    clear hb
    refine wp_run (exec_slice_hi (k := m) Try.underlying22 sz36 rfl (ev_tmp e23) (ev_tmp e24) (by omega)) ?_
    exact hKR _ (hX.refl _)
  (try simp only [Act.put, List.setIfInBounds_toArray, List.set_cons_zero, List.set_cons_succ])
  refine c_val hX (v := ?_) 9 ({ dst := some 27, op := Go.Op.move (Go.Operand.tmp 0), type := 29, pos := "ref.go:70", after := #[], guard := none }) hI (by kernel_rfl) (by kernel_rfl) rfl ?_ ?_
  rotate_left
  · intro bA hb W hI KR hKR
    have e0 := hb 0
    simp only [List.getElem?_toArray, List.getElem?_cons_succ, List.getElem?_cons_zero] at e0
    clear hb
    go_simp
    exact hKR _ (Gr.refl _)
  (try simp only [Act.put, List.setIfInBounds_toArray, List.set_cons_zero, List.set_cons_succ])
  refine c_val hX (v := ?_) 10 ({ dst := some 28, op := Go.Op.nilCheck (Go.Operand.tmp 27), type := 0, pos := "ref.go:70", after := #[{ on := 9, ground := Go.Ground.data }], guard := none }) hI (by kernel_rfl) (by kernel_rfl) rfl ?_ ?_
  rotate_left
  · intro bA hb W hI KR hKR
    have e27 := hb 27
    simp only [List.getElem?_toArray, List.getElem?_cons_succ, List.getElem?_cons_zero] at e27
    clear hb
    go_simp
    exact hKR _ (Gr.refl _)
  (try simp only [Act.put, List.setIfInBounds_toArray, List.set_cons_zero, List.set_cons_succ])
  refine c_val hX (v := ?_) 11 ({ dst := some 29, op := Go.Op.fieldAddr 31 (Go.Operand.tmp 28) 0, type := 0, pos := "ref.go:70", after := #[{ on := 10, ground := Go.Ground.data }], guard := none }) hI (by kernel_rfl) (by kernel_rfl) rfl ?_ ?_
  rotate_left
  · intro bA hb W hI KR hKR
    have e28 := hb 28
    simp only [List.getElem?_toArray, List.getElem?_cons_succ, List.getElem?_cons_zero] at e28
    clear hb
    go_simp
    exact hKR _ (Gr.refl _)
  (try simp only [Act.put, List.setIfInBounds_toArray, List.set_cons_zero, List.set_cons_succ])
  refine c_val hX (v := ?_) 12 ({ dst := some 30, op := Go.Op.load 22 (Go.Operand.tmp 29), type := 22, pos := "ref.go:70", after := #[{ on := 11, ground := Go.Ground.data }], guard := none }) hI (by kernel_rfl) (by kernel_rfl) rfl ?_ ?_
  rotate_left
  · intro bA hb W hI KR hKR
    have e29 := hb 29
    simp only [List.getElem?_toArray, List.getElem?_cons_succ, List.getElem?_cons_zero] at e29
    clear hb
    have cc := cell_below hI CG.out
    go_simp
    exact hKR _ (hX.refl _)
  (try simp only [Act.put, List.setIfInBounds_toArray, List.set_cons_zero, List.set_cons_succ])
  refine c_val hX (v := ?_) 13 ({ dst := some 31, op := Go.Op.move (Go.Operand.tmp 4), type := 3, pos := "ref.go:70", after := #[], guard := none }) hI (by kernel_rfl) (by kernel_rfl) rfl ?_ ?_
  rotate_left
  · intro bA hb W hI KR hKR
    have e4 := hb 4
    simp only [List.getElem?_toArray, List.getElem?_cons_succ, List.getElem?_cons_zero] at e4
    clear hb
    go_simp
    exact hKR _ (Gr.refl _)
  (try simp only [Act.put, List.setIfInBounds_toArray, List.set_cons_zero, List.set_cons_succ])
  refine c_val hX (v := ?_) 14 ({ dst := some 32, op := Go.Op.binOp Go.BinOp.add 3 (Go.Operand.tmp 31) (Go.Operand.const (Go.Value.int Go.IntKind.i64 1)) 3, type := 3, pos := "ref.go:70", after := #[{ on := 13, ground := Go.Ground.data }], guard := none }) hI (by kernel_rfl) (by kernel_rfl) rfl ?_ ?_
  rotate_left
  · intro bA hb W hI KR hKR
    have e31 := hb 31
    simp only [List.getElem?_toArray, List.getElem?_cons_succ, List.getElem?_cons_zero] at e31
    clear hb
    go_simp
    exact hKR _ (Gr.refl _)
  (try simp only [Act.put, List.setIfInBounds_toArray, List.set_cons_zero, List.set_cons_succ])
  refine c_val hX (v := ?_) 15 ({ dst := some 33, op := Go.Op.slice 22 (Go.Operand.tmp 30) (some (Go.Operand.tmp 32)) none none, type := 22, pos := "ref.go:70", after := #[{ on := 12, ground := Go.Ground.data }, { on := 14, ground := Go.Ground.data }], guard := none }) hI (by kernel_rfl) (by kernel_rfl) rfl ?_ ?_
  rotate_left
  · intro bA hb W hI KR hKR
    have e30 := hb 30
    have e32 := hb 32
    simp only [List.getElem?_toArray, List.getElem?_cons_succ, List.getElem?_cons_zero] at e30 e32
    clear hb
    refine wp_run (exec_slice_lo (k := m + 1) Try.underlying22 sz36 rfl (ev_tmp e30) (by rw [ev_tmp e32]; rfl) (by omega)) ?_
    exact hKR _ (hX.refl _)
  (try simp only [Act.put, List.setIfInBounds_toArray, List.set_cons_zero, List.set_cons_succ])
  refine c_main 1 ({ dst := some 19, op := Go.Op.buildSlice 22 0 #[], type := 22, pos := "ref.go:70", after := #[], guard := none }) (by kernel_rfl) (by kernel_rfl) rfl ?_
  intro bA hb W hW KR hKR
  clear hb
  have hIW := hX.keep hI hW
  clear hI
  go_simp
  have hI := below_alloc hIW (.cells #[] 36)
  refine hKR _ _ hI ?_
  have HO := Lib.hid (own_empty36 W w2.heap.size hIW.size)
  (try clear hW)
  (try clear hIW)
  (try simp only [Act.put, List.setIfInBounds_toArray, List.set_cons_zero, List.set_cons_succ])
  refine c_main 8 ({ dst := some 26, op := Go.Op.call { callee := Go.Callee.builtin Go.Builtin.append, args := #[Go.Operand.tmp 19, Go.Operand.tmp 25], argTypes := #[22, 22] }, type := 22, pos := "ref.go:70", after := #[{ on := 1, ground := Go.Ground.data }, { on := 7, ground := Go.Ground.data }], guard := none }) (by kernel_rfl) (by kernel_rfl) rfl ?_
  intro bA hb W hW KR hKR
  have e19 := hb 19
  have e25 := hb 25
  simp only [List.getElem?_toArray, List.getElem?_cons_succ, List.getElem?_cons_zero] at e19 e25
  clear hb
  have hIW := hX.keep hI hW
  clear hI
  replace HO := Lib.hid (pw_own_below HO.out hW)
  obtain ⟨v3, W3, r3, m3, b3, _⟩ := app_rows36 HO.out ((HRow.out.below hIW).take HM1.out) (HZn.out.hi (by omega)) hIW.size (by simp) (by have := HL1.out; omega)
  refine wp_app (.tmp 19) (.tmp 25) rfl rfl (ev_tmp e19) (ev_tmp e25) r3 ?_
  have hI := hIW.grown b3 hIW.size (fun k hk => (own_lt HO.out k hk).1)
  refine hKR _ _ hI ?_
  replace HO := Lib.hid m3
  clear r3 m3 b3
  rw [List.nil_append] at HO
  (try clear hW)
  (try clear hIW)
  (try simp only [Act.put, List.setIfInBounds_toArray, List.set_cons_zero, List.set_cons_succ])
  refine c_main 16 ({ dst := some 34, op := Go.Op.call { callee := Go.Callee.builtin Go.Builtin.append, args := #[Go.Operand.tmp 26, Go.Operand.tmp 33], argTypes := #[22, 22] }, type := 22, pos := "ref.go:70", after := #[{ on := 8, ground := Go.Ground.data }, { on := 15, ground := Go.Ground.data }, { on := 8, ground := Go.Ground.chain }], guard := none }) (by kernel_rfl) (by kernel_rfl) rfl ?_
  intro bA hb W hW KR hKR
  have e26 := hb 26
  have e33 := hb 33
  simp only [List.getElem?_toArray, List.getElem?_cons_succ, List.getElem?_cons_zero] at e26 e33
  clear hb
  have hIW := hX.keep hI hW
  clear hI
  replace HO := Lib.hid (pw_own_below HO.out hW)
  obtain ⟨v4, W4, r4, m4, b4, _⟩ := app_rows36 HO.out ((HRow.out.below hIW).drop HM2.out) (HZn.out.lo3 (by omega)) hIW.size (by have := HL1.out; omega) (by have := HL2.out; omega)
  refine wp_app (.tmp 26) (.tmp 33) rfl rfl (ev_tmp e26) (ev_tmp e33) r4 ?_
  have hI := hIW.grown b4 hIW.size (fun k hk => (own_lt HO.out k hk).1)
  refine hKR _ _ hI ?_
  rw [← HZS.out] at m4
  obtain ⟨A4, c4, rfl⟩ := own_slice m4
  replace HO := Lib.hid m4
  clear r4 m4 b4
  (try clear hW)
  (try clear hIW)
  (try simp only [Act.put, List.setIfInBounds_toArray, List.set_cons_zero, List.set_cons_succ])
  refine c_val hX (v := ?_) 17 ({ dst := some 35, op := Go.Op.nilCheck (Go.Operand.tmp 18), type := 0, pos := "ref.go:70", after := #[{ on := 0, ground := Go.Ground.data }, { on := 0, ground := Go.Ground.phase }, { on := 1, ground := Go.Ground.phase }, { on := 2, ground := Go.Ground.phase }, { on := 3, ground := Go.Ground.phase }, { on := 4, ground := Go.Ground.phase }, { on := 5, ground := Go.Ground.phase }, { on := 6, ground := Go.Ground.phase }, { on := 7, ground := Go.Ground.phase }, { on := 8, ground := Go.Ground.phase }, { on := 9, ground := Go.Ground.phase }, { on := 10, ground := Go.Ground.phase }, { on := 11, ground := Go.Ground.phase }, { on := 12, ground := Go.Ground.phase }, { on := 13, ground := Go.Ground.phase }, { on := 14, ground := Go.Ground.phase }, { on := 15, ground := Go.Ground.phase }, { on := 16, ground := Go.Ground.phase }], guard := none }) hI (by kernel_rfl) (by kernel_rfl) rfl ?_ ?_
  rotate_left
  · intro bA hb W hI KR hKR
    have e18 := hb 18
    simp only [List.getElem?_toArray, List.getElem?_cons_succ, List.getElem?_cons_zero] at e18
    clear hb
    go_simp
    exact hKR _ (Gr.refl _)
  (try simp only [Act.put, List.setIfInBounds_toArray, List.set_cons_zero, List.set_cons_succ])
  refine c_val hX (v := ?_) 18 ({ dst := some 36, op := Go.Op.fieldAddr 31 (Go.Operand.tmp 35) 0, type := 0, pos := "ref.go:70", after := #[{ on := 17, ground := Go.Ground.data }, { on := 0, ground := Go.Ground.phase }, { on := 1, ground := Go.Ground.phase }, { on := 2, ground := Go.Ground.phase }, { on := 3, ground := Go.Ground.phase }, { on := 4, ground := Go.Ground.phase }, { on := 5, ground := Go.Ground.phase }, { on := 6, ground := Go.Ground.phase }, { on := 7, ground := Go.Ground.phase }, { on := 8, ground := Go.Ground.phase }, { on := 9, ground := Go.Ground.phase }, { on := 10, ground := Go.Ground.phase }, { on := 11, ground := Go.Ground.phase }, { on := 12, ground := Go.Ground.phase }, { on := 13, ground := Go.Ground.phase }, { on := 14, ground := Go.Ground.phase }, { on := 15, ground := Go.Ground.phase }, { on := 16, ground := Go.Ground.phase }], guard := none }) hI (by kernel_rfl) (by kernel_rfl) rfl ?_ ?_
  rotate_left
  · intro bA hb W hI KR hKR
    have e35 := hb 35
    simp only [List.getElem?_toArray, List.getElem?_cons_succ, List.getElem?_cons_zero] at e35
    clear hb
    go_simp
    exact hKR _ (Gr.refl _)
  (try simp only [Act.put, List.setIfInBounds_toArray, List.set_cons_zero, List.set_cons_succ])
  refine c_late 19 ({ dst := none, op := Go.Op.store 22 (Go.Operand.tmp 36) (Go.Operand.tmp 34), type := 0, pos := "ref.go:70", after := #[{ on := 18, ground := Go.Ground.data }, { on := 16, ground := Go.Ground.data }, { on := 16, ground := Go.Ground.chain }, { on := 0, ground := Go.Ground.phase }, { on := 1, ground := Go.Ground.phase }, { on := 2, ground := Go.Ground.phase }, { on := 3, ground := Go.Ground.phase }, { on := 4, ground := Go.Ground.phase }, { on := 5, ground := Go.Ground.phase }, { on := 6, ground := Go.Ground.phase }, { on := 7, ground := Go.Ground.phase }, { on := 8, ground := Go.Ground.phase }, { on := 9, ground := Go.Ground.phase }, { on := 10, ground := Go.Ground.phase }, { on := 11, ground := Go.Ground.phase }, { on := 12, ground := Go.Ground.phase }, { on := 13, ground := Go.Ground.phase }, { on := 14, ground := Go.Ground.phase }, { on := 15, ground := Go.Ground.phase }, { on := 16, ground := Go.Ground.phase }], guard := none }) (by kernel_rfl) (by kernel_rfl) (by kernel_rfl) (by kernel_rfl) rfl ?_
  intro bA hb W hW KR hKR
  have e36 := hb 36
  have e34 := hb 34
  simp only [List.getElem?_toArray, List.getElem?_cons_succ, List.getElem?_cons_zero] at e36 e34
  clear hb
  have hIW := hX.keep hI hW
  clear hI
  replace HO := Lib.hid (pw_own_below HO.out hW)
  have HGW := Lib.hid ((hIW.block g hg2).trans HG2.out)
  have cc := cell_of_heap HGW.out (j := 0) rfl
  have ff := frozen_of_heap HGW.out (j := 0)
  have HIW := Lib.hid hIW
  go_simp
  refine hKR undef _ ?_
  (try clear hW)
  (try clear hIW)
  (try simp only [Act.put, List.setIfInBounds_toArray, List.set_cons_zero, List.set_cons_succ])
  refine c_done (by kernel_rfl) ?_
  intro w5 hW
  refine hQ' _ _ ?_
  clear hQ' hX
  by_cases hcm : c = m + 1
  · subst hcm
    have hs1 : (W.setCell ⟨g, 0, none⟩ (.slice A4 zs.length c4)).heap.size = W.heap.size := by simp
    have hRV1 := rv_fresh HGW.out HO.out hg2 (Nat.le_trans HBS.out HW2.out.size)
    have HRV := Lib.hid (hRV1.below hW)
    have hPq1 := pq_fresh (u := .slice (some ⟨g1, 0, none⟩) ys.length (m+1)) (base := base) (g := g) HIW.out HO.out (Nat.le_trans HBS.out HW2.out.size)
    have hPq2 := ((Pq.of_below HW2.out HBS.out).trans hPq1).trans (Pq.of_below hW (Nat.le_trans HBS.out (by rw [hs1]; exact Nat.le_trans HW2.out.size HIW.out.size)))
    have HPq := Lib.hid hPq2
    have hwg : w.heap.size ≠ g := by omega
    have hwg1 : w1.heap.size ≠ g := by omega
    have h5 := (HIW.out.block _ (heap_lt HX5.out)).trans HX5.out
    have h5' := (set_ne (v := .slice A4 zs.length c4) (j := 0) hwg1 rfl).trans h5
    have HX5' := Lib.hid ((hW.block _ (heap_lt h5')).trans h5')
    have h6 := (HIW.out.block _ (heap_lt HR.out)).trans HR.out
    have h6' := (set_ne (v := .slice A4 zs.length c4) (j := 0) hwg rfl).trans h6
    have HR' := Lib.hid ((hW.block _ (heap_lt h6')).trans h6')
    have HOB := Lib.hid (fun k hk => (own_lt HO.out k hk).1)
    clear hs1 hRV1 hPq1 hPq2 hwg1 h5 h5' h6 h6' hW
    go_wp2_with (first
      | (refine wpList_load_on (by rfl) 36 (.tmp 5) rfl _ rfl 36 (IS (at_ ys m)) (0, 0) _ HX5'.out Try.underlying36 rfl (info36 _) ?_)
      | (refine wpList_store_whole rfl 36 (.tmp 2) (.tmp 37) rfl w.heap.size (IS (at_ ys m)) #[.int .i64 0, .int .i64 0, .int .i64 0] 36 rfl rfl HR'.out rfl (info36 _) (by kernel_rfl) ?_; intro w6 hnew hsz hfar hbel; have HX6 := Lib.hid hnew; have HRw := Lib.hid (show Rw w.heap.size w5 w6 from ⟨hsz, hfar, hbel⟩); clear hnew hsz hfar hbel))
    have d0 : w6.cell? ⟨w.heap.size, 0, none⟩ = some (.int .i64 (at_ ys m).t) := cell_of_heap HX6.out (j := 0) rfl
    have d1 : w6.cell? ⟨w.heap.size, 1, none⟩ = some (.int .i64 (at_ ys m).r) := cell_of_heap HX6.out (j := 1) rfl
    have d2 : w6.cell? ⟨w.heap.size, 2, none⟩ = some (.int .i64 (at_ ys m).g) := cell_of_heap HX6.out (j := 2) rfl
    have hfin := HRV.out.rw HRw.out hwg (fun e => by have h7 := HOB.out _ e; have h8 := heap_lt HR.out; omega)
    have hpq := HPq.out.rw HRw.out (Nat.le_refl _) HBS.out
    rw [HZS.out] at hfin hpq
    exact bodyPost_ret (v := .tuple #[.agg #[.int .i64 (at_ ys m).t, .int .i64 (at_ ys m).r, .int .i64 (at_ ys m).g], .bool true]) (by simp [results, Try.results30, go_sem, *]) rfl ⟨m, HM.out, rfl, _, hfin, hpq⟩
  · skip
    have hs1 : (W.setCell ⟨g, 0, none⟩ (.slice A4 zs.length c4)).heap.size = W.heap.size := by simp
    have hRV1 := rv_fresh HGW.out HO.out hg2 (Nat.le_trans HBS.out HW2.out.size)
    have HRV := Lib.hid (hRV1.below hW)
    have hPq1 := pq_fresh (u := .slice (some ⟨g1, 0, none⟩) ys.length c) (base := base) (g := g) HIW.out HO.out (Nat.le_trans HBS.out HW2.out.size)
    have hPq2 := ((Pq.of_below HW2.out HBS.out).trans hPq1).trans (Pq.of_below hW (Nat.le_trans HBS.out (by rw [hs1]; exact Nat.le_trans HW2.out.size HIW.out.size)))
    have HPq := Lib.hid hPq2
    have hwg : w.heap.size ≠ g := by omega
    have hwg1 : w1.heap.size ≠ g := by omega
    have h5 := (HIW.out.block _ (heap_lt HX5.out)).trans HX5.out
    have h5' := (set_ne (v := .slice A4 zs.length c4) (j := 0) hwg1 rfl).trans h5
    have HX5' := Lib.hid ((hW.block _ (heap_lt h5')).trans h5')
    have h6 := (HIW.out.block _ (heap_lt HR.out)).trans HR.out
    have h6' := (set_ne (v := .slice A4 zs.length c4) (j := 0) hwg rfl).trans h6
    have HR' := Lib.hid ((hW.block _ (heap_lt h6')).trans h6')
    have HOB := Lib.hid (fun k hk => (own_lt HO.out k hk).1)
    clear hs1 hRV1 hPq1 hPq2 hwg1 h5 h5' h6 h6' hW
    go_wp2_with (first
      | (refine wpList_load_on (by rfl) 36 (.tmp 5) rfl _ rfl 36 (IS (at_ ys m)) (0, 0) _ HX5'.out Try.underlying36 rfl (info36 _) ?_)
      | (refine wpList_store_whole rfl 36 (.tmp 2) (.tmp 37) rfl w.heap.size (IS (at_ ys m)) #[.int .i64 0, .int .i64 0, .int .i64 0] 36 rfl rfl HR'.out rfl (info36 _) (by kernel_rfl) ?_; intro w6 hnew hsz hfar hbel; have HX6 := Lib.hid hnew; have HRw := Lib.hid (show Rw w.heap.size w5 w6 from ⟨hsz, hfar, hbel⟩); clear hnew hsz hfar hbel))
    have d0 : w6.cell? ⟨w.heap.size, 0, none⟩ = some (.int .i64 (at_ ys m).t) := cell_of_heap HX6.out (j := 0) rfl
    have d1 : w6.cell? ⟨w.heap.size, 1, none⟩ = some (.int .i64 (at_ ys m).r) := cell_of_heap HX6.out (j := 1) rfl
    have d2 : w6.cell? ⟨w.heap.size, 2, none⟩ = some (.int .i64 (at_ ys m).g) := cell_of_heap HX6.out (j := 2) rfl
    have hfin := HRV.out.rw HRw.out hwg (fun e => by have h7 := HOB.out _ e; have h8 := heap_lt HR.out; omega)
    have hpq := HPq.out.rw HRw.out (Nat.le_refl _) HBS.out
    rw [HZS.out] at hfin hpq
    exact bodyPost_ret (v := .tuple #[.agg #[.int .i64 (at_ ys m).t, .int .i64 (at_ ys m).r, .int .i64 (at_ ys m).g], .bool true]) (by simp [results, Try.results30, go_sem, *]) rfl ⟨m, HM.out, rfl, _, hfin, hpq⟩
/-- What stays while Push works: the queue's block, the item's box. -/
def PI (g : Nat) (u : Value) (bx : Nat) (x : It) (W : World) : Prop := W.heap[g]? = some (.cells #[u] 31 (0, 0)) ∧ W.heap[bx]? = some (.cells (IS x) 36 (0, 0))
theorem PI.up {g bx : Nat} {u : Value} {x : It} {w w' : World} (h : PI g u bx x w) (k : Gr w w') : PI g u bx x w' := ⟨(k.block _ (heap_lt h.1)).trans h.1, (k.block _ (heap_lt h.2)).trans h.2⟩
theorem bs22i (x : It) (W : World) : (Instr.buildSlice 22 1 #[(0, .agg (IS x))]).run Try.prog W = .ok (.slice (some ⟨W.heap.size, 0, none⟩) 1 1) (W.alloc (.cells (IS x) 36)) := by
  kernel_rfl
set_option maxRecDepth 10000 in
set_option maxHeartbeats 4000000 in
theorem rpush (base g : Nat) (u : Value) (ys : List It) (x : It) (w : World) (h : RV w base g u ys) (hbase : base ≤ w.heap.size) (hl : ys.length < 1000000) : Calls Try.prog 29 #[.pointer (some ⟨g, 0, none⟩), .agg (IS x)] w fun e w' => e = .returned (.int .i64 0) ∧ ∃ u', RV w' base g u' (ys ++ [x]) ∧ Pq base g u w u' w' := by
  have hgw := heap_lt h.blk
  have HON := Lib.hid (fun k hk => own_lt h.row k hk)
  obtain ⟨A, c, rfl⟩ := own_slice h.row
  have H := Lib.hid (h.below (below_alloc (Below.refl w.heap.size w) (.cells (IS x) 36)))
  have HL := Lib.hid hl
  have HBS := Lib.hid hbase
  obtain ⟨zs, hzs⟩ : ∃ zs, zs = ys ++ [x] := ⟨_, rfl⟩
  have HZS := Lib.hid hzs
  have q1 : ¬ (1048576 : Int) ≤ (ys.length : Int) := by omega
  have cg : w.cell? ⟨g, 0, none⟩ = some (.slice A ys.length c) := cell_of_heap h.blk (j := 0) rfl
  clear h hbase hzs
  go_enter Try.func29, Try.ntmps29
  go_wp2
  obtain ⟨W0, hW0⟩ : ∃ W0, W0 = w.alloc (.cells (IS x) 36) := ⟨_, rfl⟩
  have HB0 := Lib.hid (show Below w.heap.size w W0 from by rw [hW0]; exact below_alloc (Below.refl _ _) _)
  have HBX := Lib.hid (show W0.heap[w.heap.size]? = some (.cells (IS x) 36 (0, 0)) from by rw [hW0]; exact heap_alloc_new w _)
  rw [← hW0] at H ⊢
  have HRow := Lib.hid H.out.row
  have HG := Lib.hid H.out.blk
  have HPQ := Lib.hid (show Pq base g (.slice A ys.length c) w (.slice A ys.length c) W0 from Pq.of_below HB0.out HBS.out)
  clear hW0 cg
  refine run_region (fn := Try.f29) (id := 3) (n := 11) [10] (PI g (.slice A ys.length c) w.heap.size x) Gr (by kernel_rfl) (by kernel_rfl) (by kernel_rfl) (by kernel_rfl) Gr.refl (fun _ _ _ => Gr.trans) (fun _ _ h k => h.up k) ?_
  intro Q' hQ' hX
  have hI : (PI g (.slice A ys.length c) w.heap.size x) _ := (show PI g (.slice A ys.length c) w.heap.size x W0.drew from ⟨HG.out, HBX.out⟩)
  (try simp only [Act.put, List.setIfInBounds_toArray, List.set_cons_zero, List.set_cons_succ])
  replace HPQ := Lib.hid (HPQ.out.trans (Pq.of_below (show Below W0.heap.size W0 W0.drew from (Below.refl _ _).drew) (Nat.le_trans HBS.out HPQ.out.size)))
  refine c_val hX (v := ?_) 0 ({ dst := some 11, op := Go.Op.move (Go.Operand.tmp 0), type := 29, pos := "ref.go:40", after := #[], guard := none }) hI (by kernel_rfl) (by kernel_rfl) rfl ?_ ?_
  rotate_left
  · intro bA hb W hI KR hKR
    have e0 := hb 0
    simp only [List.getElem?_toArray, List.getElem?_cons_succ, List.getElem?_cons_zero] at e0
    clear hb
    go_simp
    exact hKR _ (Gr.refl _)
  (try simp only [Act.put, List.setIfInBounds_toArray, List.set_cons_zero, List.set_cons_succ])
  refine c_val hX (v := ?_) 1 ({ dst := some 12, op := Go.Op.move (Go.Operand.tmp 0), type := 29, pos := "ref.go:40", after := #[], guard := none }) hI (by kernel_rfl) (by kernel_rfl) rfl ?_ ?_
  rotate_left
  · intro bA hb W hI KR hKR
    have e0 := hb 0
    simp only [List.getElem?_toArray, List.getElem?_cons_succ, List.getElem?_cons_zero] at e0
    clear hb
    go_simp
    exact hKR _ (Gr.refl _)
  (try simp only [Act.put, List.setIfInBounds_toArray, List.set_cons_zero, List.set_cons_succ])
  refine c_val hX (v := ?_) 2 ({ dst := some 13, op := Go.Op.nilCheck (Go.Operand.tmp 12), type := 0, pos := "ref.go:40", after := #[{ on := 1, ground := Go.Ground.data }], guard := none }) hI (by kernel_rfl) (by kernel_rfl) rfl ?_ ?_
  rotate_left
  · intro bA hb W hI KR hKR
    have e12 := hb 12
    simp only [List.getElem?_toArray, List.getElem?_cons_succ, List.getElem?_cons_zero] at e12
    clear hb
    go_simp
    exact hKR _ (Gr.refl _)
  (try simp only [Act.put, List.setIfInBounds_toArray, List.set_cons_zero, List.set_cons_succ])
  refine c_val hX (v := ?_) 3 ({ dst := some 14, op := Go.Op.fieldAddr 31 (Go.Operand.tmp 13) 0, type := 0, pos := "ref.go:40", after := #[{ on := 2, ground := Go.Ground.data }], guard := none }) hI (by kernel_rfl) (by kernel_rfl) rfl ?_ ?_
  rotate_left
  · intro bA hb W hI KR hKR
    have e13 := hb 13
    simp only [List.getElem?_toArray, List.getElem?_cons_succ, List.getElem?_cons_zero] at e13
    clear hb
    go_simp
    exact hKR _ (Gr.refl _)
  (try simp only [Act.put, List.setIfInBounds_toArray, List.set_cons_zero, List.set_cons_succ])
  refine c_val hX (v := ?_) 4 ({ dst := some 15, op := Go.Op.load 22 (Go.Operand.tmp 14), type := 22, pos := "ref.go:40", after := #[{ on := 3, ground := Go.Ground.data }], guard := none }) hI (by kernel_rfl) (by kernel_rfl) rfl ?_ ?_
  rotate_left
  · intro bA hb W hI KR hKR
    have e14 := hb 14
    simp only [List.getElem?_toArray, List.getElem?_cons_succ, List.getElem?_cons_zero] at e14
    clear hb
    have cc := cell_of_heap hI.1 (j := 0) rfl
    go_simp
    exact hKR _ (hX.refl _)
  (try simp only [Act.put, List.setIfInBounds_toArray, List.set_cons_zero, List.set_cons_succ])
  refine c_val hX (v := ?_) 5 ({ dst := some 16, op := Go.Op.load 36 (Go.Operand.tmp 3), type := 36, pos := "ref.go:40", after := #[], guard := none }) hI (by kernel_rfl) (by kernel_rfl) rfl ?_ ?_
  rotate_left
  · intro bA hb W hI KR hKR
    have e3 := hb 3
    simp only [List.getElem?_toArray, List.getElem?_cons_succ, List.getElem?_cons_zero] at e3
    clear hb
    refine wp_load_mid 36 (.tmp 3) rfl w.heap.size 0 (ev_tmp e3) (IS x).toList _ (range_of_heap hI.2 _ _ (fun j v hv => by simpa using hv)) Try.underlying36 rfl (info36 _) ?_
    exact hKR _ (hX.refl _)
  (try simp only [Act.put, List.setIfInBounds_toArray, List.set_cons_zero, List.set_cons_succ])
  refine c_main 6 ({ dst := some 17, op := Go.Op.buildSlice 22 1 #[(0, Go.Operand.tmp 16)], type := 22, pos := "ref.go:40", after := #[{ on := 5, ground := Go.Ground.data }], guard := none }) (by kernel_rfl) (by kernel_rfl) rfl ?_
  intro bA hb W hW KR hKR
  have e16 := hb 16
  simp only [List.getElem?_toArray, List.getElem?_cons_succ, List.getElem?_cons_zero] at e16
  clear hb
  have hIW := hX.keep hI hW
  clear hI
  replace HRow := Lib.hid (pw_own_below (own_drew HRow.out) hW)
  have hsz := Nat.le_trans HBS.out HPQ.out.size
  replace HPQ := Lib.hid (HPQ.out.trans (Pq.of_below hW hsz))
  have hsz := Nat.le_trans HBS.out HPQ.out.size
  refine wp_run (exec_buildSlice (l := [(0, .tmp 16)]) rfl (by simp only [List.map_cons, List.map_nil, ev_tmp e16]; exact bs22i x W)) ?_
  have hba := below_alloc (Below.refl W.heap.size W) (.cells (IS x) 36)
  have hI := hIW.up hba
  refine hKR _ _ hI ?_
  have HN1 := Lib.hid (heap_alloc_new W (.cells (IS x) 36))
  replace HRow := Lib.hid (pw_own_below HRow.out hba)
  replace HPQ := Lib.hid (HPQ.out.trans (Pq.of_below hba hsz))
  clear hba hsz
  (try clear hW)
  (try clear hIW)
  (try simp only [Act.put, List.setIfInBounds_toArray, List.set_cons_zero, List.set_cons_succ])
  refine c_main 7 ({ dst := some 18, op := Go.Op.call { callee := Go.Callee.builtin Go.Builtin.append, args := #[Go.Operand.tmp 15, Go.Operand.tmp 17], argTypes := #[22, 22] }, type := 22, pos := "ref.go:40", after := #[{ on := 4, ground := Go.Ground.data }, { on := 6, ground := Go.Ground.data }], guard := none }) (by kernel_rfl) (by kernel_rfl) rfl ?_
  intro bA hb W hW KR hKR
  have e15 := hb 15
  have e17 := hb 17
  simp only [List.getElem?_toArray, List.getElem?_cons_succ, List.getElem?_cons_zero] at e15 e17
  clear hb
  have hIW := hX.keep hI hW
  clear hI
  replace HRow := Lib.hid (pw_own_below HRow.out hW)
  have hsz := Nat.le_trans HBS.out HPQ.out.size
  replace HPQ := Lib.hid (HPQ.out.trans (Pq.of_below hW hsz))
  have hsz := Nat.le_trans HBS.out HPQ.out.size
  have hN1 := (hW.block _ (heap_lt HN1.out)).trans HN1.out
  obtain ⟨v3, W3, r3, m3, b3, o3⟩ := app_rows36 HRow.out (rowI_one hN1) (.inr ⟨_, _, _, rfl⟩) hsz (by have := HL.out; omega) (by simp)
  refine wp_app (.tmp 15) (.tmp 17) rfl rfl (ev_tmp e15) (ev_tmp e17) r3 ?_
  have hg0 := rv_own_ne (⟨hIW.1, HRow.out⟩ : RV W base g _ ys)
  have hI : PI g (.slice A ys.length c) w.heap.size x W3 := ⟨(b3.block g (heap_lt hIW.1) (fun e => hg0 e.symm)).trans hIW.1, (b3.block _ (heap_lt hIW.2) (fun e => by have := (HON.out _ e.symm).2; omega)).trans hIW.2⟩
  refine hKR _ _ hI ?_
  have HG3 := Lib.hid (show v3.ownBlock ≠ some g from fun e => by rcases o3 with o3 | o3; exact hg0 (o3 ▸ e); rw [o3] at e; injection e with e; have := heap_lt hIW.1; omega)
  replace HPQ := Lib.hid (HPQ.out.grow b3 o3 (fun k hk => (HON.out k hk).1) hsz)
  rw [← HZS.out] at m3
  obtain ⟨A3, c3, rfl⟩ := own_slice m3
  replace HRow := Lib.hid m3
  clear r3 m3 b3 o3 hg0 hsz hN1
  (try clear hW)
  (try clear hIW)
  (try simp only [Act.put, List.setIfInBounds_toArray, List.set_cons_zero, List.set_cons_succ])
  refine c_val hX (v := ?_) 8 ({ dst := some 19, op := Go.Op.nilCheck (Go.Operand.tmp 11), type := 0, pos := "ref.go:40", after := #[{ on := 0, ground := Go.Ground.data }, { on := 0, ground := Go.Ground.phase }, { on := 1, ground := Go.Ground.phase }, { on := 2, ground := Go.Ground.phase }, { on := 3, ground := Go.Ground.phase }, { on := 4, ground := Go.Ground.phase }, { on := 5, ground := Go.Ground.phase }, { on := 6, ground := Go.Ground.phase }, { on := 7, ground := Go.Ground.phase }], guard := none }) hI (by kernel_rfl) (by kernel_rfl) rfl ?_ ?_
  rotate_left
  · intro bA hb W hI KR hKR
    have e11 := hb 11
    simp only [List.getElem?_toArray, List.getElem?_cons_succ, List.getElem?_cons_zero] at e11
    clear hb
    go_simp
    exact hKR _ (Gr.refl _)
  (try simp only [Act.put, List.setIfInBounds_toArray, List.set_cons_zero, List.set_cons_succ])
  refine c_val hX (v := ?_) 9 ({ dst := some 20, op := Go.Op.fieldAddr 31 (Go.Operand.tmp 19) 0, type := 0, pos := "ref.go:40", after := #[{ on := 8, ground := Go.Ground.data }, { on := 0, ground := Go.Ground.phase }, { on := 1, ground := Go.Ground.phase }, { on := 2, ground := Go.Ground.phase }, { on := 3, ground := Go.Ground.phase }, { on := 4, ground := Go.Ground.phase }, { on := 5, ground := Go.Ground.phase }, { on := 6, ground := Go.Ground.phase }, { on := 7, ground := Go.Ground.phase }], guard := none }) hI (by kernel_rfl) (by kernel_rfl) rfl ?_ ?_
  rotate_left
  · intro bA hb W hI KR hKR
    have e19 := hb 19
    simp only [List.getElem?_toArray, List.getElem?_cons_succ, List.getElem?_cons_zero] at e19
    clear hb
    go_simp
    exact hKR _ (Gr.refl _)
  (try simp only [Act.put, List.setIfInBounds_toArray, List.set_cons_zero, List.set_cons_succ])
  refine c_late 10 ({ dst := none, op := Go.Op.store 22 (Go.Operand.tmp 20) (Go.Operand.tmp 18), type := 0, pos := "ref.go:40", after := #[{ on := 9, ground := Go.Ground.data }, { on := 7, ground := Go.Ground.data }, { on := 7, ground := Go.Ground.chain }, { on := 0, ground := Go.Ground.phase }, { on := 1, ground := Go.Ground.phase }, { on := 2, ground := Go.Ground.phase }, { on := 3, ground := Go.Ground.phase }, { on := 4, ground := Go.Ground.phase }, { on := 5, ground := Go.Ground.phase }, { on := 6, ground := Go.Ground.phase }, { on := 7, ground := Go.Ground.phase }], guard := none }) (by kernel_rfl) (by kernel_rfl) (by kernel_rfl) (by kernel_rfl) rfl ?_
  intro bA hb W hW KR hKR
  have e20 := hb 20
  have e18 := hb 18
  simp only [List.getElem?_toArray, List.getElem?_cons_succ, List.getElem?_cons_zero] at e20 e18
  clear hb
  have hIW := hX.keep hI hW
  clear hI
  replace HRow := Lib.hid (pw_own_below HRow.out hW)
  have hsz := Nat.le_trans HBS.out HPQ.out.size
  replace HPQ := Lib.hid (HPQ.out.trans (Pq.of_below hW hsz))
  have cc := cell_of_heap hIW.1 (j := 0) rfl
  have ff := frozen_of_heap hIW.1 (j := 0)
  have HGW := Lib.hid hIW.1
  go_simp
  refine hKR undef _ ?_
  (try clear hW)
  (try clear hIW)
  (try simp only [Act.put, List.setIfInBounds_toArray, List.set_cons_zero, List.set_cons_succ])
  refine c_done (by kernel_rfl) ?_
  intro w5 hW
  refine hQ' _ _ ?_
  clear hQ' hX
  have hRV : RV (W.setCell ⟨g, 0, none⟩ (.slice A3 zs.length c3)) base g (.slice A3 zs.length c3) zs := ⟨set_same HGW.out, own_set HRow.out HG3.out⟩
  have hRV2 := hRV.below hW
  have hP := HPQ.out.put (.slice A3 zs.length c3)
  have hP2 := hP.trans (Pq.of_below hW (Nat.le_trans HBS.out hP.size))
  rw [HZS.out] at hRV2 hP2
  have HF1 := Lib.hid hRV2
  have HF2 := Lib.hid hP2
  clear hRV hRV2 hP hP2 hW
  go_wp2
  go_ret
  exact ⟨rfl, _, HF1.out, HF2.out⟩
end Go.Proofs.Ytndfoohdoadkfaa
