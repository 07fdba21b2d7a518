/- The walk of rect.Meet. -/
import Derived.Test.YtjekoaodgdodjaaB
import Derived.Test.YtjekoaodgdodjaaDrawn
set_option linter.unusedVariables false
set_option linter.unusedSimpArgs false
namespace Go.Proofs.Ytjekoaodgdodjaa
open Go.RowKit
attribute [local go_sem] Act.eval

set_option maxHeartbeats 1000000 in
theorem meet_any (x y u v x' y' u' v' : Int) (w : World) :
    Calls Try.prog 10 #[.agg #[.int .i64 x, .int .i64 y, .int .i64 u, .int .i64 v], .agg #[.int .i64 x', .int .i64 y', .int .i64 u', .int .i64 v']] w fun e w' =>
      e = .returned (meetF ⟨x, y, u, v⟩ ⟨x', y', u', v'⟩).v ∧ Below w.heap.size w w' := by
  by_cases a : rightB x y u v = true
  · by_cases b : rightB x' y' u' v' = true
    · obtain ⟨a1, a2, a3, a4, a5, a6, a7, a8⟩ := right_bd a
      obtain ⟨b1, b2, b3, b4, b5, b6, b7, b8⟩ := right_bd b
      go_enter Try.func10, Try.ntmps10
      go_wp2_with (go_at_call 8; refine (right_any _ _ _ _ _).mono ?_; rintro e w1 ⟨rfl, hb⟩; (try replace hb := undrew hb); obtain ⟨hc, hf⟩ := ch hb; have hz := hb.size; (try simp only [World.size_alloc, World.size_setCell, World.size_drew] at hz); have zw0 : w.heap.size < w1.heap.size := (by omega); have zw1 : w.heap.size + 1 < w1.heap.size := (by omega); have zw2 : w.heap.size + 1 + 1 < w1.heap.size := (by omega))
      refine drawn_data (w := w1) ([.inl (.agg #[.int .i64 x, .int .i64 y, .int .i64 u, .int .i64 v]), .inl (.agg #[.int .i64 x, .int .i64 (x + u)]), .inl (.agg #[.int .i64 x', .int .i64 y', .int .i64 u', .int .i64 v']), .inl (.agg #[.int .i64 x', .int .i64 (x' + u')]), .inl (.agg #[.int .i64 (max x x'), .int .i64 (min (x + u) (x' + u'))]), .inl (.agg #[.int .i64 x, .int .i64 y, .int .i64 u, .int .i64 v]), .inl (.agg #[.int .i64 y, .int .i64 (y + v)]), .inl (.agg #[.int .i64 x', .int .i64 y', .int .i64 u', .int .i64 v']), .inl (.agg #[.int .i64 y', .int .i64 (y' + v')]), .inl (.agg #[.int .i64 (max y y'), .int .i64 (min (y + v) (y' + v'))]), .inr (73, #[.int .i64 0, .int .i64 0]), .inr (73, #[.int .i64 0, .int .i64 0])] : List Leaves) (by kernel_rfl) (by kernel_rfl) (by kernel_rfl) ?_ ?_
      · intro i hi
        rcases (show i = 0 ∨ i = 1 ∨ i = 2 ∨ i = 3 ∨ i = 4 ∨ i = 5 ∨ i = 6 ∨ i = 7 ∨ i = 8 ∨ i = 9 ∨ i = 10 ∨ i = 11 by simp at hi; omega) with rfl | rfl | rfl | rfl | rfl | rfl | rfl | rfl | rfl | rfl | rfl | rfl
        · intro a W hs ho hB
          have e2 : a.tmps[2]? = some (.pointer (some ⟨w.heap.size, 0, none⟩)) := (ho 2 (by kernel_rfl)).trans rfl
          refine ⟨_, rfl, fun KR hKR => ?_⟩
          obtain ⟨hc, hf⟩ := ch' hB
          clear hs ho
          go_simp
          exact hKR _ _ rfl (Below.refl _ _) (fun h => by cases h)
        · intro a W hs ho hB
          have e16 : a.tmps[16]? = some (.agg #[.int .i64 x, .int .i64 y, .int .i64 u, .int .i64 v]) := hs 0 (by kernel_rfl) _ rfl 16 rfl
          refine ⟨_, rfl, fun KR hKR => ?_⟩
          obtain ⟨hc, hf⟩ := ch' hB
          clear hs ho
          go_simp
          (go_at_call 40; refine (wide_any _ _ _ _ _ (by omega) (by omega) (by omega) (by omega)).mono ?_; rintro e w1 ⟨rfl, hb⟩)
          exact hKR _ _ rfl hb (fun h => by cases h)
        · intro a W hs ho hB
          have e3 : a.tmps[3]? = some (.pointer (some ⟨w.heap.size + 1, 0, none⟩)) := (ho 3 (by kernel_rfl)).trans rfl
          refine ⟨_, rfl, fun KR hKR => ?_⟩
          obtain ⟨hc, hf⟩ := ch' hB
          clear hs ho
          go_simp
          exact hKR _ _ rfl (Below.refl _ _) (fun h => by cases h)
        · intro a W hs ho hB
          have e18 : a.tmps[18]? = some (.agg #[.int .i64 x', .int .i64 y', .int .i64 u', .int .i64 v']) := hs 2 (by kernel_rfl) _ rfl 18 rfl
          refine ⟨_, rfl, fun KR hKR => ?_⟩
          obtain ⟨hc, hf⟩ := ch' hB
          clear hs ho
          go_simp
          (go_at_call 40; refine (wide_any _ _ _ _ _ (by omega) (by omega) (by omega) (by omega)).mono ?_; rintro e w1 ⟨rfl, hb⟩)
          exact hKR _ _ rfl hb (fun h => by cases h)
        · intro a W hs ho hB
          have e17 : a.tmps[17]? = some (.agg #[.int .i64 x, .int .i64 (x + u)]) := hs 1 (by kernel_rfl) _ rfl 17 rfl
          have e19 : a.tmps[19]? = some (.agg #[.int .i64 x', .int .i64 (x' + u')]) := hs 3 (by kernel_rfl) _ rfl 19 rfl
          refine ⟨_, rfl, fun KR hKR => ?_⟩
          obtain ⟨hc, hf⟩ := ch' hB
          clear hs ho
          go_simp
          (go_at_call 41; refine (smeet_any _ _ _ _ _).mono ?_; rintro e w1 ⟨rfl, hb⟩)
          exact hKR _ _ rfl hb (fun h => by cases h)
        · intro a W hs ho hB
          have e2 : a.tmps[2]? = some (.pointer (some ⟨w.heap.size, 0, none⟩)) := (ho 2 (by kernel_rfl)).trans rfl
          refine ⟨_, rfl, fun KR hKR => ?_⟩
          obtain ⟨hc, hf⟩ := ch' hB
          clear hs ho
          go_simp
          exact hKR _ _ rfl (Below.refl _ _) (fun h => by cases h)
        · intro a W hs ho hB
          have e21 : a.tmps[21]? = some (.agg #[.int .i64 x, .int .i64 y, .int .i64 u, .int .i64 v]) := hs 5 (by kernel_rfl) _ rfl 21 rfl
          refine ⟨_, rfl, fun KR hKR => ?_⟩
          obtain ⟨hc, hf⟩ := ch' hB
          clear hs ho
          go_simp
          (go_at_call 42; refine (tall_any _ _ _ _ _ (by omega) (by omega) (by omega) (by omega)).mono ?_; rintro e w1 ⟨rfl, hb⟩)
          exact hKR _ _ rfl hb (fun h => by cases h)
        · intro a W hs ho hB
          have e3 : a.tmps[3]? = some (.pointer (some ⟨w.heap.size + 1, 0, none⟩)) := (ho 3 (by kernel_rfl)).trans rfl
          refine ⟨_, rfl, fun KR hKR => ?_⟩
          obtain ⟨hc, hf⟩ := ch' hB
          clear hs ho
          go_simp
          exact hKR _ _ rfl (Below.refl _ _) (fun h => by cases h)
        · intro a W hs ho hB
          have e23 : a.tmps[23]? = some (.agg #[.int .i64 x', .int .i64 y', .int .i64 u', .int .i64 v']) := hs 7 (by kernel_rfl) _ rfl 23 rfl
          refine ⟨_, rfl, fun KR hKR => ?_⟩
          obtain ⟨hc, hf⟩ := ch' hB
          clear hs ho
          go_simp
          (go_at_call 42; refine (tall_any _ _ _ _ _ (by omega) (by omega) (by omega) (by omega)).mono ?_; rintro e w1 ⟨rfl, hb⟩)
          exact hKR _ _ rfl hb (fun h => by cases h)
        · intro a W hs ho hB
          have e22 : a.tmps[22]? = some (.agg #[.int .i64 y, .int .i64 (y + v)]) := hs 6 (by kernel_rfl) _ rfl 22 rfl
          have e24 : a.tmps[24]? = some (.agg #[.int .i64 y', .int .i64 (y' + v')]) := hs 8 (by kernel_rfl) _ rfl 24 rfl
          refine ⟨_, rfl, fun KR hKR => ?_⟩
          obtain ⟨hc, hf⟩ := ch' hB
          clear hs ho
          go_simp
          (go_at_call 41; refine (smeet_any _ _ _ _ _).mono ?_; rintro e w1 ⟨rfl, hb⟩)
          exact hKR _ _ rfl hb (fun h => by cases h)
        · intro a W hs ho hB
          refine ⟨_, rfl, fun KR hKR => ?_⟩
          obtain ⟨hc, hf⟩ := ch' hB
          clear hs ho
          go_simp
          exact hKR _ _ ⟨W.heap.size, rfl, hB.size, heap_alloc_new W _⟩ ((Below.refl _ _).alloc (Nat.le_refl _) _) (fun _ => rfl)
        · intro a W hs ho hB
          refine ⟨_, rfl, fun KR hKR => ?_⟩
          obtain ⟨hc, hf⟩ := ch' hB
          clear hs ho
          go_simp
          exact hKR _ _ ⟨W.heap.size, rfl, hB.size, heap_alloc_new W _⟩ ((Below.refl _ _).alloc (Nat.le_refl _) _) (fun _ => rfl)
      · intro vals W hv hne hB
        have v0 : vals 0 = .agg #[.int .i64 x, .int .i64 y, .int .i64 u, .int .i64 v] := hv 0 (Nat.le_of_ble_eq_true rfl)
        have v1 : vals 1 = .agg #[.int .i64 x, .int .i64 (x + u)] := hv 1 (Nat.le_of_ble_eq_true rfl)
        have v2 : vals 2 = .agg #[.int .i64 x', .int .i64 y', .int .i64 u', .int .i64 v'] := hv 2 (Nat.le_of_ble_eq_true rfl)
        have v3 : vals 3 = .agg #[.int .i64 x', .int .i64 (x' + u')] := hv 3 (Nat.le_of_ble_eq_true rfl)
        have v4 : vals 4 = .agg #[.int .i64 (max x x'), .int .i64 (min (x + u) (x' + u'))] := hv 4 (Nat.le_of_ble_eq_true rfl)
        have v5 : vals 5 = .agg #[.int .i64 x, .int .i64 y, .int .i64 u, .int .i64 v] := hv 5 (Nat.le_of_ble_eq_true rfl)
        have v6 : vals 6 = .agg #[.int .i64 y, .int .i64 (y + v)] := hv 6 (Nat.le_of_ble_eq_true rfl)
        have v7 : vals 7 = .agg #[.int .i64 x', .int .i64 y', .int .i64 u', .int .i64 v'] := hv 7 (Nat.le_of_ble_eq_true rfl)
        have v8 : vals 8 = .agg #[.int .i64 y', .int .i64 (y' + v')] := hv 8 (Nat.le_of_ble_eq_true rfl)
        have v9 : vals 9 = .agg #[.int .i64 (max y y'), .int .i64 (min (y + v) (y' + v'))] := hv 9 (Nat.le_of_ble_eq_true rfl)
        obtain ⟨g10, v10, hg10, hh10⟩ : ∃ g, vals 10 = .pointer (some ⟨g, 0, none⟩) ∧ w1.heap.size ≤ g ∧ W.heap[g]? = some (.cells #[.int .i64 0, .int .i64 0] 73 (0, 0)) := hv 10 (Nat.le_of_ble_eq_true rfl)
        obtain ⟨g11, v11, hg11, hh11⟩ : ∃ g, vals 11 = .pointer (some ⟨g, 0, none⟩) ∧ w1.heap.size ≤ g ∧ W.heap[g]? = some (.cells #[.int .i64 0, .int .i64 0] 73 (0, 0)) := hv 11 (Nat.le_of_ble_eq_true rfl)
        have n10_11 : g10 ≠ g11 := fun h => hne 10 11 (Nat.le_of_ble_eq_true rfl) (Nat.le_of_ble_eq_true rfl) (by decide) rfl rfl (by rw [v10, v11, h])
        simp only [List.length_cons, List.length_nil, Nat.zero_add, Nat.reduceAdd, slots, if_true, dstOf, List.getElem?_toArray, List.getElem?_cons_zero, List.getElem?_cons_succ, Option.bind_some, Act.put, List.setIfInBounds_toArray, List.set_cons_zero, List.set_cons_succ, v0, v1, v2, v3, v4, v5, v6, v7, v8, v9, v10, v11]
        clear hv hne v0 v1 v2 v3 v4 v5 v6 v7 v8 v9 v10 v11
        have c10_0 := cell_of_heap hh10 (j := 0) rfl
        have f10_0 := frozen_of_heap (j := 0) hh10
        have c10_1 := cell_of_heap hh10 (j := 1) rfl
        have f10_1 := frozen_of_heap (j := 1) hh10
        have c11_0 := cell_of_heap hh11 (j := 0) rfl
        have f11_0 := frozen_of_heap (j := 0) hh11
        have c11_1 := cell_of_heap hh11 (j := 1) rfl
        have f11_1 := frozen_of_heap (j := 1) hh11
        change wpAny _ _ _ _ 2 _ _ _
        refine wpAny_ready (rs := [12]) (by kernel_rfl) (by simp) ?_
        refine AllReady.cons (o := { dst := none, op := Go.Op.store 73 (Go.Operand.tmp 5) (Go.Operand.tmp 20), type := 0, pos := "rect.go:72", after := #[{ on := 10, ground := Go.Ground.data }, { on := 4, ground := Go.Ground.data }, { on := 9, ground := Go.Ground.chain }, { on := 0, ground := Go.Ground.phase }, { on := 1, ground := Go.Ground.phase }, { on := 2, ground := Go.Ground.phase }, { on := 3, ground := Go.Ground.phase }, { on := 4, ground := Go.Ground.phase }, { on := 5, ground := Go.Ground.textOnly Go.Departure.lateStores }, { on := 6, ground := Go.Ground.textOnly Go.Departure.lateStoresUnsure }, { on := 7, ground := Go.Ground.textOnly Go.Departure.lateStores }, { on := 8, ground := Go.Ground.textOnly Go.Departure.lateStoresUnsure }, { on := 9, ground := Go.Ground.textOnly Go.Departure.lateStoresUnsure }, { on := 10, ground := Go.Ground.phase }, { on := 11, ground := Go.Ground.phase }], guard := none }) rfl (fun KR hKR => ?_) AllReady.nil
        go_simp
        refine hKR _ _ ?_
        clear hKR KR
        (try simp only [Act.put, List.setIfInBounds_toArray, List.set_cons_zero, List.set_cons_succ])
        refine wpAny_ready (rs := [13]) (by kernel_rfl) (by simp) ?_
        refine AllReady.cons (o := { dst := none, op := Go.Op.store 73 (Go.Operand.tmp 6) (Go.Operand.tmp 25), type := 0, pos := "rect.go:72", after := #[{ on := 11, ground := Go.Ground.data }, { on := 9, ground := Go.Ground.data }, { on := 12, ground := Go.Ground.chain }, { on := 0, ground := Go.Ground.phase }, { on := 1, ground := Go.Ground.phase }, { on := 2, ground := Go.Ground.phase }, { on := 3, ground := Go.Ground.phase }, { on := 4, ground := Go.Ground.phase }, { on := 5, ground := Go.Ground.phase }, { on := 6, ground := Go.Ground.phase }, { on := 7, ground := Go.Ground.phase }, { on := 8, ground := Go.Ground.phase }, { on := 9, ground := Go.Ground.phase }, { on := 10, ground := Go.Ground.phase }, { on := 11, ground := Go.Ground.phase }, { on := 12, ground := Go.Ground.phase }], guard := none }) rfl (fun KR hKR => ?_) AllReady.nil
        go_simp
        refine hKR _ _ ?_
        clear hKR KR
        (try simp only [Act.put, List.setIfInBounds_toArray, List.set_cons_zero, List.set_cons_succ])
        refine wpAny_done (by kernel_rfl) ?_ _
        generalize hW2 : World.setCell _ _ _ = W2
        have hB2 : Below w1.heap.size w1 W2 := by rw [← hW2]; exact ((((hB.setCell (p := ⟨g10, 0, none⟩) hg10 _).setCell (p := ⟨g10, 1, none⟩) hg10 _).setCell (p := ⟨g11, 0, none⟩) hg11 _).setCell (p := ⟨g11, 1, none⟩) hg11 _)
        have hq10 : W2.heap[g10]? = some (.cells #[.int .i64 (max x x'), .int .i64 (min (x + u) (x' + u'))] 73 (0, 0)) := by rw [← hW2]; exact (set_ne n10_11 (set_ne n10_11 (set_same (set_same hh10))))
        have hq11 : W2.heap[g11]? = some (.cells #[.int .i64 (max y y'), .int .i64 (min (y + v) (y' + v'))] 73 (0, 0)) := by rw [← hW2]; exact (set_same (set_same (set_ne n10_11.symm (set_ne n10_11.symm hh11))))
        have hS2 : w1.heap.size ≤ W2.heap.size := by rw [← hW2]; simp only [World.size_setCell]; exact hB.size
        clear hW2
        clear hh10 c10_0 f10_0 c10_1 f10_1
        clear hh11 c11_0 f11_0 c11_1 f11_1
        have c10_0 := cell_of_heap hq10 (j := 0) rfl
        have f10_0 := frozen_of_heap (j := 0) hq10
        have c10_1 := cell_of_heap hq10 (j := 1) rfl
        have f10_1 := frozen_of_heap (j := 1) hq10
        have lg10 : g10 < W2.heap.size := heap_lt hq10
        clear hq10
        have c11_0 := cell_of_heap hq11 (j := 0) rfl
        have f11_0 := frozen_of_heap (j := 0) hq11
        have c11_1 := cell_of_heap hq11 (j := 1) rfl
        have f11_1 := frozen_of_heap (j := 1) hq11
        have lg11 : g11 < W2.heap.size := heap_lt hq11
        clear hq11
        obtain ⟨hc2, hf2⟩ := ch' hB2
        have zz := hB2.size
        have zW0 : w.heap.size < W2.heap.size := by omega
        have zW1 : w.heap.size + 1 < W2.heap.size := by omega
        have zW2 : w.heap.size + 1 + 1 < W2.heap.size := by omega
        by_cases hx : min (x + u) (x' + u') ≤ max x x'
        · go_wp2_with (first | (go_at_call 43; refine (none_any _ _ _).mono ?_; rintro e w1 ⟨rfl, hb⟩; (try replace hb := undrew hb); obtain ⟨hc, hf⟩ := ch hb; have hz := hb.size; (try simp only [World.size_alloc, World.size_setCell, World.size_drew] at hz); have zw0 : w.heap.size < w1.heap.size := (by omega); have zw1 : w.heap.size + 1 < w1.heap.size := (by omega); have zw2 : w.heap.size + 1 + 1 < w1.heap.size := (by omega); have zg10 : g10 < w1.heap.size := (by omega); have zg11 : g11 < w1.heap.size := (by omega)))
          exact bodyPost_ret (v := .agg #[.int .i64 0, .int .i64 0, .int .i64 0, .int .i64 0]) (by simp [results, Try.results10, go_sem, *]) rfl ⟨by simp [meetF, R4.right, a, b, hx, R4.zero], by (repeat (first | with_reducible exact Below.refl _ _ | with_reducible apply below_alloc | with_reducible apply below_drew1 | with_reducible assumption | (with_reducible refine Keep.below (by assumption)) | (with_reducible refine bel ?_ (by assumption)) | ((with_reducible refine below_set ?_ ?_); rotate_left; (focus (first | assumption | omega | (simp; done) | (simp; omega))))))⟩
        · by_cases hy : min (y + v) (y' + v') ≤ max y y'
          · go_wp2_with (first | (go_at_call 43; refine (none_any _ _ _).mono ?_; rintro e w1 ⟨rfl, hb⟩; (try replace hb := undrew hb); obtain ⟨hc, hf⟩ := ch hb; have hz := hb.size; (try simp only [World.size_alloc, World.size_setCell, World.size_drew] at hz); have zw0 : w.heap.size < w1.heap.size := (by omega); have zw1 : w.heap.size + 1 < w1.heap.size := (by omega); have zw2 : w.heap.size + 1 + 1 < w1.heap.size := (by omega); have zg10 : g10 < w1.heap.size := (by omega); have zg11 : g11 < w1.heap.size := (by omega)))
            exact bodyPost_ret (v := .agg #[.int .i64 0, .int .i64 0, .int .i64 0, .int .i64 0]) (by simp [results, Try.results10, go_sem, *]) rfl ⟨by simp [meetF, R4.right, a, b, hx, hy, R4.zero], by (repeat (first | with_reducible exact Below.refl _ _ | with_reducible apply below_alloc | with_reducible apply below_drew1 | with_reducible assumption | (with_reducible refine Keep.below (by assumption)) | (with_reducible refine bel ?_ (by assumption)) | ((with_reducible refine below_set ?_ ?_); rotate_left; (focus (first | assumption | omega | (simp; done) | (simp; omega))))))⟩
          · go_wp2_with (first | (go_at_call 43; refine (none_any _ _ _).mono ?_; rintro e w1 ⟨rfl, hb⟩; (try replace hb := undrew hb); obtain ⟨hc, hf⟩ := ch hb; have hz := hb.size; (try simp only [World.size_alloc, World.size_setCell, World.size_drew] at hz); have zw0 : w.heap.size < w1.heap.size := (by omega); have zw1 : w.heap.size + 1 < w1.heap.size := (by omega); have zw2 : w.heap.size + 1 + 1 < w1.heap.size := (by omega); have zg10 : g10 < w1.heap.size := (by omega); have zg11 : g11 < w1.heap.size := (by omega)) | (go_at_call 44; refine (of_any _ _ _ _ _ (by omega) (by omega) (by omega) (by omega)).mono ?_; rintro e w1 ⟨rfl, hb⟩; (try replace hb := undrew hb); obtain ⟨hc, hf⟩ := ch hb; have hz := hb.size; (try simp only [World.size_alloc, World.size_setCell, World.size_drew] at hz); have zw0 : w.heap.size < w1.heap.size := (by omega); have zw1 : w.heap.size + 1 < w1.heap.size := (by omega); have zw2 : w.heap.size + 1 + 1 < w1.heap.size := (by omega); have zg10 : g10 < w1.heap.size := (by omega); have zg11 : g11 < w1.heap.size := (by omega)))
            exact bodyPost_ret (v := .agg #[.int .i64 (max x x'), .int .i64 (max y y'), .int .i64 (min (x + u) (x' + u') - max x x'), .int .i64 (min (y + v) (y' + v') - max y y')]) (by simp [results, Try.results10, go_sem, *]) rfl ⟨by simp [meetF, R4.right, a, b, Int.not_le.2 hx, Int.not_le.2 hy], by (repeat (first | with_reducible exact Below.refl _ _ | with_reducible apply below_alloc | with_reducible apply below_drew1 | with_reducible assumption | (with_reducible refine Keep.below (by assumption)) | (with_reducible refine bel ?_ (by assumption)) | ((with_reducible refine below_set ?_ ?_); rotate_left; (focus (first | assumption | omega | (simp; done) | (simp; omega))))))⟩
    · go_enter Try.func10, Try.ntmps10
      go_wp2_with (go_at_call 8; refine (right_any _ _ _ _ _).mono ?_; rintro e w1 ⟨rfl, hb⟩; (try replace hb := undrew hb); obtain ⟨hc, hf⟩ := ch hb; have hz := hb.size; (try simp only [World.size_alloc, World.size_setCell, World.size_drew] at hz); have zw0 : w.heap.size < w1.heap.size := (by omega); have zw1 : w.heap.size + 1 < w1.heap.size := (by omega); have zw2 : w.heap.size + 1 + 1 < w1.heap.size := (by omega))
      exact bodyPost_ret (v := .agg #[.int .i64 0, .int .i64 0, .int .i64 0, .int .i64 0]) (by simp [results, Try.results10, go_sem, *]) rfl ⟨by simp [meetF, R4.right, a, b, R4.zero], by (repeat (first | with_reducible exact Below.refl _ _ | with_reducible apply below_alloc | with_reducible apply below_drew1 | with_reducible assumption | (with_reducible refine Keep.below (by assumption)) | (with_reducible refine bel ?_ (by assumption)) | ((with_reducible refine below_set ?_ ?_); rotate_left; (focus (first | assumption | omega | (simp; done) | (simp; omega))))))⟩
  · go_enter Try.func10, Try.ntmps10
    go_wp2_with (go_at_call 8; refine (right_any _ _ _ _ _).mono ?_; rintro e w1 ⟨rfl, hb⟩; (try replace hb := undrew hb); obtain ⟨hc, hf⟩ := ch hb; have hz := hb.size; (try simp only [World.size_alloc, World.size_setCell, World.size_drew] at hz); have zw0 : w.heap.size < w1.heap.size := (by omega); have zw1 : w.heap.size + 1 < w1.heap.size := (by omega); have zw2 : w.heap.size + 1 + 1 < w1.heap.size := (by omega))
    exact bodyPost_ret (v := .agg #[.int .i64 0, .int .i64 0, .int .i64 0, .int .i64 0]) (by simp [results, Try.results10, go_sem, *]) rfl ⟨by simp [meetF, R4.right, a, R4.zero], by (repeat (first | with_reducible exact Below.refl _ _ | with_reducible apply below_alloc | with_reducible apply below_drew1 | with_reducible assumption | (with_reducible refine Keep.below (by assumption)) | (with_reducible refine bel ?_ (by assumption)) | ((with_reducible refine below_set ?_ ?_); rotate_left; (focus (first | assumption | omega | (simp; done) | (simp; omega))))))⟩
end Go.Proofs.Ytjekoaodgdodjaa
