/- queue.Queue: none, Len, Peek, Pop. -/
import Derived.Test.YtndfoohdoadkfaaQI
import Derived.Test.YtndfoohdoadkfaaQW
set_option linter.unusedVariables false
set_option linter.unusedSimpArgs false
namespace Go.Proofs.Ytndfoohdoadkfaa
open Go.RowKit
abbrev qp (g : Nat) : Value := .pointer (some ⟨g, 0, none⟩)
/-- A queue at gq over a pile at b. -/
structure QV (W : World) (base gq b : Nat) (v : Value) (xs : List It) : Prop where
  q : W.heap[gq]? = some (.cells #[qp b] 49 (0, 0))
  pv : PV W base b v xs
theorem QV.below {W W' : World} {base gq b : Nat} {v : Value} {xs : List It} (h : QV W base gq b v xs) (hb : Below W.heap.size W W') : QV W' base gq b v xs := ⟨(hb.block _ (heap_lt h.q)).trans h.q, h.pv.below hb⟩
theorem QV.ne {W : World} {base gq b : Nat} {v : Value} {xs : List It} (h : QV W base gq b v xs) : gq ≠ b := by
  rintro rfl
  have := h.q
  rw [h.pv.blk] at this
  injection this with this
  injection this with _ this
  cases this
theorem QV.own_ne {W : World} {base gq b : Nat} {v : Value} {xs : List It} (h : QV W base gq b v xs) : v.ownBlock ≠ some gq := by
  obtain ⟨A, c, rfl, ⟨rfl, _, _⟩ | ⟨g, rfl, _, _, _, _⟩⟩ := h.pv.shape
  · simp [Value.ownBlock]
  · rcases h.pv.row.2 with ⟨e, _⟩ | ⟨g', cap, cur, e, _, hh, _⟩
    · cases e
    · injection e with e1
      injection e1 with e1
      injection e1 with e1
      subst e1
      simp only [Value.ownBlock]
      intro e
      injection e with e
      subst e
      have := h.q
      rw [hh] at this
      injection this with this
      injection this with _ this
      cases this
theorem QV.step {W W' : World} {base gq b : Nat} {v v' : Value} {xs ys : List It} (h : QV W base gq b v xs) (hp : PV W' base b v' ys) (hq : Pq base b v W v' W') : QV W' base gq b v' ys :=
  ⟨(hq.far gq (heap_lt h.q) h.ne h.own_ne).trans h.q, hp⟩
theorem q_none (base gq b : Nat) (v : Value) (xs : List It) (w : World) (h : QV w base gq b v xs) : Calls Try.prog 33 #[qp gq] w fun e w' => e = .returned (.bool false) ∧ w = w' := by
  have c0 : w.cell? ⟨gq, 0, none⟩ = some (qp b) := cell_of_heap h.q (j := 0) rfl
  go_enter Try.func33, Try.ntmps33
  go_wp2
  go_ret
  exact ⟨rfl, rfl⟩
theorem q_len (base gq b : Nat) (v : Value) (xs : List It) (w : World) (h : QV w base gq b v xs) : Calls Try.prog 16 #[qp gq] w fun e w' => e = .returned (.int .i64 xs.length) ∧ w = w' := by
  obtain ⟨A, c, rfl, _⟩ := h.pv.shape
  have c0 : w.cell? ⟨gq, 0, none⟩ = some (qp b) := cell_of_heap h.q (j := 0) rfl
  have c1 : w.cell? ⟨b, 0, none⟩ = some (.slice A xs.length c) := cell_of_heap h.pv.blk (j := 0) rfl
  have H := Lib.hid h
  clear h
  go_enter Try.func16, Try.ntmps16
  go_wp2_with (first | (go_at_call 33; refine (q_none _ _ _ _ _ _ H.out).mono ?_; rintro e w1 ⟨rfl, rfl⟩) | (go_at_call 34; refine (len_any _ _ _ _).mono ?_; rintro e w1 ⟨rfl, rfl⟩))
  go_ret
  exact ⟨rfl, rfl⟩
/-- No queue, and one that nobody made. -/
def QDead (W : World) (p : Value) : Prop := p = .pointer none ∨ ∃ g, p = qp g ∧ W.heap[g]? = some (.cells #[.pointer none] 49 (0, 0))
theorem QDead.below {W W' : World} {p : Value} (h : QDead W p) (hb : Below W.heap.size W W') : QDead W' p := by
  rcases h with rfl | ⟨g, rfl, hg⟩
  · exact .inl rfl
  · exact .inr ⟨g, rfl, (hb.block _ (heap_lt hg)).trans hg⟩
theorem QDead.ptr {W : World} {p : Value} (h : QDead W p) : ∃ q, p = .pointer q := by
  rcases h with rfl | ⟨g, rfl, _⟩
  · exact ⟨_, rfl⟩
  · exact ⟨_, rfl⟩
theorem d_none (p : Value) (w : World) (h : QDead w p) : Calls Try.prog 33 #[p] w fun e w' => e = .returned (.bool true) ∧ w = w' := by
  rcases h with rfl | ⟨g, rfl, hg⟩
  · go_enter Try.func33, Try.ntmps33
    go_wp2
    go_ret
    exact ⟨rfl, rfl⟩
  · have c0 : w.cell? ⟨g, 0, none⟩ = some (.pointer none) := cell_of_heap hg (j := 0) rfl
    go_enter Try.func33, Try.ntmps33
    go_wp2
    go_ret
    exact ⟨rfl, rfl⟩
theorem d_len (p : Value) (w : World) (h : QDead w p) : Calls Try.prog 16 #[p] w fun e w' => e = .returned (.int .i64 0) ∧ w = w' := by
  obtain ⟨q, rfl⟩ := h.ptr
  have H := Lib.hid h
  clear h
  go_enter Try.func16, Try.ntmps16
  go_wp2_with (first | (go_at_call 33; refine (d_none _ _ H.out).mono ?_; rintro e w1 ⟨rfl, rfl⟩))
  go_ret
  exact ⟨rfl, rfl⟩
def I0 : It := ⟨0, 0, 0⟩
set_option maxHeartbeats 1000000 in
theorem d_peek (p : Value) (w : World) (h : QDead w p) : Calls Try.prog 13 #[p] w fun e w' => e = .returned (.tuple #[.agg (IS I0), .bool false]) ∧ Below w.heap.size w w' := by
  obtain ⟨q, rfl⟩ := h.ptr
  have H := Lib.hid (h.below (below_alloc (Below.refl w.heap.size w) (.cells #[.int .i64 0, .int .i64 0, .int .i64 0] 40)))
  clear h
  go_enter Try.func13, Try.ntmps13
  go_wp2_with (first | (go_at_call 16; refine (d_len _ _ H.out).mono ?_; rintro e w1 ⟨rfl, rfl⟩))
  exact bodyPost_ret (v := .tuple #[.agg #[.int .i64 0, .int .i64 0, .int .i64 0], .bool false]) (by simp [results, Try.results13, go_sem, *]) rfl ⟨rfl, by (repeat (first | with_reducible exact Below.refl _ _ | with_reducible apply below_alloc | with_reducible apply below_drew1 | with_reducible assumption | (with_reducible refine Keep.below (by assumption)) | (with_reducible refine bel ?_ (by assumption)) | ((with_reducible refine below_set ?_ ?_); rotate_left; (focus (first | assumption | omega | (simp; done) | (simp; omega))))))⟩
set_option maxHeartbeats 1000000 in
theorem d_pop (p : Value) (w : World) (h : QDead w p) : Calls Try.prog 12 #[p] w fun e w' => e = .returned (.tuple #[.agg (IS I0), .bool false]) ∧ Below w.heap.size w w' := by
  obtain ⟨q, rfl⟩ := h.ptr
  have H := Lib.hid (h.below (below_alloc (Below.refl w.heap.size w) (.cells #[.int .i64 0, .int .i64 0, .int .i64 0] 40)))
  clear h
  go_enter Try.func12, Try.ntmps12
  go_wp2_with (first
    | (go_at_call 13; refine (d_peek _ _ H.out).mono ?_; rintro e w1 ⟨rfl, hb⟩; have hB := Lib.hid (bel (below_alloc (Below.refl _ _) _) hb); have HR := Lib.hid ((hb.block w.heap.size (by simp)).trans (heap_alloc_new w _)); have hz := hb.size; simp only [World.size_alloc] at hz; clear hb)
    | (refine wpList_store_whole rfl 40 (.tmp 4) (.tmp 9) rfl w1.heap.size (IS I0) #[.int .i64 0, .int .i64 0, .int .i64 0] 40 rfl rfl (heap_alloc_new w1 _) rfl (info40 I0) (by kernel_rfl) ?_; intro w2 hnew hsz hfar hbel; have HX := Lib.hid hnew; have hB := Lib.hid (hbel _ _ (by omega) (below_alloc hB.out _)); have HR := Lib.hid ((hfar w.heap.size (by omega)).trans ((heap_alloc_old _ _ (by omega)).trans HR.out)); clear hnew hsz hfar hbel)
    | (refine wpList_load_on (by rfl) 40 (.tmp 4) rfl _ rfl 40 (IS I0) (0, 0) _ HX.out Try.underlying40 rfl (info40 I0) ?_)
    | (refine wpList_store_whole rfl 40 (.tmp 2) (.tmp 18) rfl w.heap.size (IS I0) #[.int .i64 0, .int .i64 0, .int .i64 0] 40 rfl rfl HR.out rfl (info40 I0) (by kernel_rfl) ?_; intro w3 hnew hsz hfar hbel; have HR := Lib.hid hnew; have hB := Lib.hid (hbel _ _ (Nat.le_refl _) hB.out); clear hnew hsz hfar hbel))
  have c0 := cell_of_heap HR.out (j := 0) rfl
  have c1 := cell_of_heap HR.out (j := 1) rfl
  have c2 := cell_of_heap HR.out (j := 2) rfl
  exact bodyPost_ret (v := .tuple #[.agg #[.int .i64 0, .int .i64 0, .int .i64 0], .bool false]) (by simp [results, Try.results12, go_sem, IS, I0, *]) rfl ⟨rfl, hB.out⟩
end Go.Proofs.Ytndfoohdoadkfaa
