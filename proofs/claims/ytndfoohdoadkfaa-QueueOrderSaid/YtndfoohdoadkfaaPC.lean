/- An act on both queues. -/
import Derived.Test.YtndfoohdoadkfaaPB
set_option linter.unusedVariables false
set_option linter.unusedSimpArgs false
namespace Go.Proofs.Ytndfoohdoadkfaa
open Go.RowKit
theorem blk_ne {W : World} {i j : Nat} {a b : Array Value} {T U : TypeId} {f f' : Nat × Nat} (h : W.heap[i]? = some (.cells a T f)) (k : W.heap[j]? = some (.cells b U f')) (hne : T ≠ U) : i ≠ j := by
  rintro rfl
  rw [h] at k
  injection k with k
  injection k with _ k _
  exact hne k
theorem own_blk {W : World} {base T size n k : Nat} {v : Value} {xs : List Value} (h : W.ownsRow base T size v n xs) (hk : v.ownBlock = some k) : ∃ cs, W.heap[k]? = some (.cells cs T (0, 0)) := by
  rcases h.2 with ⟨rfl, _⟩ | ⟨g, cap, cur, rfl, _, hh, _⟩
  · simp [Value.ownBlock] at hk
  · have : g = k := by simpa [Value.ownBlock] using hk
    subst this
    exact ⟨_, hh⟩
theorem own_keep {W W' : World} {base T size n : Nat} {v : Value} {xs : List Value} (h : W.ownsRow base T size v n xs) (hk : ∀ k, v.ownBlock = some k → W'.heap[k]? = W.heap[k]?) : W'.ownsRow base T size v n xs := by
  refine ⟨h.1, ?_⟩
  rcases h.2 with e | ⟨g, cap, cur, e, hg, hh, q⟩
  · exact .inl e
  · subst e
    exact .inr ⟨g, cap, cur, rfl, hg, (hk g (by simp [Value.ownBlock])).trans hh, q⟩
/-- The document's queue stays while the program's one works, and the other way round. -/
theorem RV.over {W W' : World} {base gq b g : Nat} {v v' u : Value} {xs ys : List It} (h : RV W base g u ys) (q : QV W base gq b v xs) (p : Pq base b v W v' W') : RV W' base g u ys := by
  have h1 : g ≠ b := blk_ne h.blk q.pv.blk (by decide)
  have h2 : v.ownBlock ≠ some g := fun e => by
    obtain ⟨cs, hc⟩ := own_blk q.pv.row e
    exact blk_ne hc h.blk (by decide) rfl
  refine ⟨(p.far g (heap_lt h.blk) h1 h2).trans h.blk, own_keep h.row fun k hk => ?_⟩
  obtain ⟨cs, hc⟩ := own_blk h.row hk
  refine p.far k (heap_lt hc) (blk_ne hc q.pv.blk (by decide)) fun e => ?_
  obtain ⟨cs', hc'⟩ := own_blk q.pv.row e
  exact blk_ne hc hc' (by decide) rfl
theorem QV.over {W W' : World} {base gq b g : Nat} {v u u' : Value} {xs ys : List It} (q : QV W base gq b v xs) (h : RV W base g u ys) (p : Pq base g u W u' W') : QV W' base gq b v xs := by
  have no : ∀ (k : Nat) (cs : Array Value) (T : TypeId), W.heap[k]? = some (.cells cs T (0, 0)) → T ≠ 36 → u.ownBlock ≠ some k := fun k cs T hk hT e => by
    obtain ⟨cs', hc'⟩ := own_blk h.row e
    exact blk_ne hk hc' hT rfl
  refine ⟨(p.far gq (heap_lt q.q) (blk_ne q.q h.blk (by decide)) (no _ _ _ q.q (by decide))).trans q.q, (p.far b (heap_lt q.pv.blk) (blk_ne q.pv.blk h.blk (by decide)) (no _ _ _ q.pv.blk (by decide))).trans q.pv.blk, own_keep q.pv.row fun k hk => ?_⟩
  obtain ⟨cs, hc⟩ := own_blk q.pv.row hk
  exact p.far k (heap_lt hc) (blk_ne hc h.blk (by decide)) (no _ _ _ hc (by decide))
/-- A block of another kind stays. -/
theorem Pq.stay {W W' : World} {base b T k : Nat} {v v' : Value} {xs : List Value} {n T' s : Nat} {a c : Array Value} (p : Pq base b v W v' W') (hb : W.heap[b]? = some (.cells a T (0, 0))) (hr : W.ownsRow base T' s v n xs) {U : TypeId} (hk : W.heap[k]? = some (.cells c U (0, 0))) (h1 : U ≠ T) (h2 : U ≠ T') : W'.heap[k]? = some (.cells c U (0, 0)) :=
  (p.far k (heap_lt hk) (blk_ne hk hb h1) (fun e => by obtain ⟨cs', hc'⟩ := own_blk hr e; exact blk_ne hk hc' h2 rfl)).trans hk
/-- A fresh block stays. -/
theorem Pq.stay' {W W' : World} {base b k : Nat} {v v' : Value} {o : Obj} (p : Pq base b v W v' W') (hk : W.heap[k]? = some o) (h1 : k ≠ b) (h2 : v.ownBlock ≠ some k) : W'.heap[k]? = some o := (p.far k (heap_lt hk) h1 h2).trans hk
/-- What the two have in common. -/
structure Rel (xs ys : List It) : Prop where
  heap : Heap xs
  cnt : ∀ x, xs.count x = ys.count x
  len : xs.length = ys.length
theorem Rel.root {xs ys : List It} (h : Rel xs ys) {m : Nat} (hm : MinAt ys m) : at_ ys m = at_ xs 0 := by
  have h0 : 0 < xs.length := by have := hm.1; have := h.len; omega
  have m1 : at_ ys m ∈ ys := List.mem_of_getElem? (at_get hm.1)
  have m2 : at_ xs 0 ∈ xs := List.mem_of_getElem? (at_get h0)
  have m3 := (mem_of_count h.cnt _).2 m1
  have m4 := (mem_of_count h.cnt _).1 m2
  refine le_anti ?_ (root_mem h.heap _ m3)
  obtain ⟨k, hk⟩ := List.getElem?_of_mem m4
  have hkl := (List.getElem?_eq_some_iff.1 hk).1
  have e : at_ ys k = at_ xs 0 := by
    unfold at_ at *
    rw [List.getD_eq_getElem?_getD, hk]
    rfl
  rw [← e]
  exact hm.2 k hkl
theorem Rel.push {xs ys : List It} (h : Rel xs ys) (x : It) : Rel (pushL xs x) (ys ++ [x]) :=
  ⟨push_heap h.heap x, fun y => by rw [push_count, List.count_append, List.count_append, h.cnt y], by simp [pushL, upL_len, h.len]⟩
theorem Rel.pop {xs ys : List It} (h : Rel xs ys) {m : Nat} (hm : MinAt ys m) : Rel (popL xs) (ys.take m ++ ys.drop (m + 1)) := by
  have hml := hm.1
  have h0 : 0 < xs.length := by have := h.len; omega
  refine ⟨pop_heap h.heap, fun y => ?_, ?_⟩
  · have h1 := pop_count h0 y
    have e : ys = ys.take m ++ at_ ys m :: ys.drop (m + 1) := by
      have h2 := (List.getElem?_eq_some_iff.1 (at_get hml)).2
      rw [← h2]
      simp
    have h3 : ys.count y = (ys.take m).count y + ((ys.drop (m + 1)).count y + if at_ ys m = y then 1 else 0) := by
      conv => lhs; rw [e]
      rw [List.count_append, List.count_cons]
      simp only [beq_iff_eq]
    have h4 := h.cnt y
    rw [List.count_append]
    rw [h.root hm] at h3
    omega
  · rw [popL_len]
    have := h.len
    simp
    omega
set_option maxHeartbeats 1000000 in
theorem q_peek0 (base gq b : Nat) (v : Value) (w : World) (h : QV w base gq b v []) : Calls Try.prog 13 #[qp gq] w fun e w' => e = .returned (.tuple #[.agg (IS I0), .bool false]) ∧ Below w.heap.size w w' := by
  have H := Lib.hid (h.below (below_alloc (Below.refl w.heap.size w) (.cells #[.int .i64 0, .int .i64 0, .int .i64 0] 40)))
  clear h
  go_enter Try.func13, Try.ntmps13
  go_wp2_with (first | (go_at_call 16; refine (q_len _ _ _ _ _ _ H.out).mono ?_; rintro e w1 ⟨rfl, rfl⟩))
  exact bodyPost_ret (v := .tuple #[.agg #[.int .i64 0, .int .i64 0, .int .i64 0], .bool false]) (by simp [results, Try.results13, go_sem, *]) rfl ⟨rfl, by (repeat (first | with_reducible exact Below.refl _ _ | with_reducible apply below_alloc | with_reducible apply below_drew1 | with_reducible assumption | (with_reducible refine Keep.below (by assumption)) | (with_reducible refine bel ?_ (by assumption)) | ((with_reducible refine below_set ?_ ?_); rotate_left; (focus (first | assumption | omega | (simp; done) | (simp; omega))))))⟩
set_option maxHeartbeats 1000000 in
theorem q_pop0 (base gq b : Nat) (v : Value) (w : World) (h : QV w base gq b v []) : Calls Try.prog 12 #[qp gq] w fun e w' => e = .returned (.tuple #[.agg (IS I0), .bool false]) ∧ Below w.heap.size w w' := by
  have H := Lib.hid (h.below (below_alloc (Below.refl w.heap.size w) (.cells #[.int .i64 0, .int .i64 0, .int .i64 0] 40)))
  clear h
  go_enter Try.func12, Try.ntmps12
  go_wp2_with (first
    | (go_at_call 13; refine (q_peek0 _ _ _ _ _ H.out).mono ?_; rintro e w1 ⟨rfl, hb⟩; have hB := Lib.hid (bel (below_alloc (Below.refl _ _) _) hb); have HR := Lib.hid ((hb.block w.heap.size (by simp)).trans (heap_alloc_new w _)); have hz := hb.size; simp only [World.size_alloc] at hz; clear hb)
    | (refine wpList_store_whole rfl 40 (.tmp 4) (.tmp 9) rfl w1.heap.size (IS I0) #[.int .i64 0, .int .i64 0, .int .i64 0] 40 rfl rfl (heap_alloc_new w1 _) rfl (info40 I0) (by kernel_rfl) ?_; intro w2 hnew hsz hfar hbel; have HX := Lib.hid hnew; have hB := Lib.hid (hbel _ _ (by omega) (below_alloc hB.out _)); have HR := Lib.hid ((hfar w.heap.size (by omega)).trans ((heap_alloc_old _ _ (by omega)).trans HR.out)); clear hnew hsz hfar hbel)
    | (refine wpList_load_on (by rfl) 40 (.tmp 4) rfl _ rfl 40 (IS I0) (0, 0) _ HX.out Try.underlying40 rfl (info40 I0) ?_)
    | (refine wpList_store_whole rfl 40 (.tmp 2) (.tmp 18) rfl w.heap.size (IS I0) #[.int .i64 0, .int .i64 0, .int .i64 0] 40 rfl rfl HR.out rfl (info40 I0) (by kernel_rfl) ?_; intro w3 hnew hsz hfar hbel; have HR := Lib.hid hnew; have hB := Lib.hid (hbel _ _ (Nat.le_refl _) hB.out); clear hnew hsz hfar hbel))
  have c0 := cell_of_heap HR.out (j := 0) rfl
  have c1 := cell_of_heap HR.out (j := 1) rfl
  have c2 := cell_of_heap HR.out (j := 2) rfl
  exact bodyPost_ret (v := .tuple #[.agg #[.int .i64 0, .int .i64 0, .int .i64 0], .bool false]) (by simp [results, Try.results12, go_sem, IS, I0, *]) rfl ⟨rfl, hB.out⟩
end Go.Proofs.Ytndfoohdoadkfaa
