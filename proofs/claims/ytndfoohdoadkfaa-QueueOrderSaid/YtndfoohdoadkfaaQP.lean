/- pile's Push and Pop. -/
import Derived.Test.YtndfoohdoadkfaaQS
set_option linter.unusedVariables false
set_option linter.unusedSimpArgs false
namespace Go.Proofs.Ytndfoohdoadkfaa
open Go.RowKit
/-- A pile's variable at b, its row v. -/
structure PV (W : World) (base b : Nat) (v : Value) (xs : List It) : Prop where
  blk : W.heap[b]? = some (.cells #[v] 66 (0, 0))
  row : W.ownsRow base 40 3 v xs.length (cellsI xs)
/-- What a call on a pile leaves: all but its variable and its row. -/
structure Pq (base b : Nat) (v : Value) (W : World) (v' : Value) (W' : World) : Prop where
  size : W.heap.size ≤ W'.heap.size
  far : ∀ k, k < W.heap.size → k ≠ b → v.ownBlock ≠ some k → W'.heap[k]? = W.heap[k]?
  own : ∀ k, v'.ownBlock = some k → v.ownBlock = some k ∨ W.heap.size ≤ k
  bel : ∀ B w0, B ≤ base → B ≤ b → Below B w0 W → Below B w0 W'
theorem Pq.refl (base b : Nat) (v : Value) (W : World) : Pq base b v W v W := ⟨Nat.le_refl _, fun _ _ _ _ => rfl, fun _ h => .inl h, fun _ _ _ _ h => h⟩
theorem Pq.trans {base b : Nat} {v v' v'' : Value} {W W' W'' : World} (h : Pq base b v W v' W') (k : Pq base b v' W' v'' W'') : Pq base b v W v'' W'' :=
  ⟨Nat.le_trans h.size k.size, fun j hj hb hv => (k.far j (Nat.lt_of_lt_of_le hj h.size) hb (fun e => by rcases h.own j e with q | q; exact hv q; omega)).trans (h.far j hj hb hv),
    fun j hj => by rcases k.own j hj with q | q; exact h.own j q; exact .inr (Nat.le_trans h.size q), fun B w0 h1 h2 h3 => k.bel B w0 h1 h2 (h.bel B w0 h1 h2 h3)⟩
theorem Pq.of_below {base b : Nat} {v : Value} {W W' : World} (h : Below W.heap.size W W') (hb : base ≤ W.heap.size) : Pq base b v W v W' :=
  ⟨h.size, fun k hk _ _ => h.block k hk, fun _ q => .inl q, fun B w0 h1 _ h3 => h3.trans (h.mono (by omega))⟩
theorem PV.below {W W' : World} {base b : Nat} {v : Value} {xs : List It} (h : PV W base b v xs) (hb : Below W.heap.size W W') : PV W' base b v xs := ⟨(hb.block _ (heap_lt h.blk)).trans h.blk, pw_own_below h.row hb⟩
theorem PV.shape {W : World} {base b : Nat} {v : Value} {xs : List It} (h : PV W base b v xs) : ∃ A c, v = .slice A xs.length c ∧ ((A = none ∧ xs.length = 0 ∧ c = 0) ∨ ∃ g, A = some ⟨g, 0, none⟩ ∧ base ≤ g ∧ g ≠ b ∧ g < W.heap.size ∧ xs.length ≤ c ∧ c ≤ maxLen) := by
  rcases h.row.2 with ⟨rfl, h0⟩ | ⟨g, cap, cur, rfl, hg, hh, h1, h2, h3, h4⟩
  · exact ⟨none, 0, by rw [h0], .inl ⟨rfl, h0, rfl⟩⟩
  · refine ⟨_, _, rfl, .inr ⟨g, rfl, hg, ?_, heap_lt hh, h1, h2⟩⟩
    rintro rfl
    have := h.blk
    rw [hh] at this
    injection this with this
    injection this with _ this
    cases this
theorem PV.own_ne {W : World} {base b : Nat} {v : Value} {xs : List It} (h : PV W base b v xs) : v.ownBlock ≠ some b := by
  obtain ⟨A, c, rfl, ⟨rfl, _, _⟩ | ⟨g, rfl, _, hg, _⟩⟩ := h.shape
  · simp [Value.ownBlock]
  · simp only [Value.ownBlock]
    intro e
    injection e with e
    exact hg e
theorem own_set {W : World} {base T size n b j : Nat} {v u : Value} {xs : List Value} (h : W.ownsRow base T size v n xs) (hne : v.ownBlock ≠ some b) : (W.setCell ⟨b, j, none⟩ u).ownsRow base T size v n xs := by
  refine ⟨h.1, ?_⟩
  rcases h.2 with e | ⟨g, cap, cur, rfl, hg, hh, r⟩
  · exact .inl e
  · exact .inr ⟨g, cap, cur, rfl, hg, set_ne (fun q => hne (by simp [Value.ownBlock, q])) hh, r⟩
/-- The pile's variable set to another row of its own. -/
theorem PV.put {W : World} {base b : Nat} {v v' : Value} {ys : List It} (h : W.heap[b]? = some (.cells #[v] 66 (0, 0))) (hr : W.ownsRow base 40 3 v' ys.length (cellsI ys)) (hne : v'.ownBlock ≠ some b) : PV (W.setCell ⟨b, 0, none⟩ v') base b v' ys :=
  ⟨by rw [set_same h]; rfl, own_set hr hne⟩
theorem Pq.put {base b : Nat} {v v' : Value} {w W : World} (h : Pq base b v w v' W) (u : Value) : Pq base b v w v' (W.setCell ⟨b, 0, none⟩ u) :=
  ⟨by simpa using h.size, fun k hk hn hv => (set_ne hn rfl).trans (h.far k hk hn hv), h.own, fun B w0 h1 h2 h3 => (h.bel B w0 h1 h2 h3).setCell (p := ⟨b, 0, none⟩) h2 u⟩
/-- append of one item onto the pile's row. -/
theorem app_one {W : World} {base g5 : Nat} {v : Value} {xs : List It} {x : It} (h : W.ownsRow base 40 3 v xs.length (cellsI xs)) (hx : W.heap[g5]? = some (.cells (IS x) 40 (0, 0))) (hb : base ≤ W.heap.size) (hl : xs.length ≤ 2000000) (ty : TypeId) :
    ∃ v' w', (Builtin.append_ #[66, 66] ty #[v, .slice (some ⟨g5, 0, none⟩) 1 1]).run Try.prog W = .ok v' w' ∧ w'.ownsRow base 40 3 v' (xs ++ [x]).length (cellsI (xs ++ [x])) ∧ W.grownBy w' v.ownBlock ∧ (v'.ownBlock = v.ownBlock ∨ v'.ownBlock = some W.heap.size) := by
  obtain ⟨i0, hi, hzz⟩ := Option.map_eq_some_iff.1 info40b
  simp only [Prod.mk.injEq] at hzz
  obtain ⟨hz0, hz1, hz2⟩ := hzz
  obtain ⟨v', w', h1, h2, h3, h4, h5⟩ := run_append_own_at (P := Try.prog) W base 66 ty 40 i0 _ 3 24 Try.underlying66 hi hz0 hz1 hz2 rfl (by omega) v xs.length (cellsI xs) h ⟨g5, 0, none⟩ 1 1 (IS x).toList rfl (World.news_of_block hx)
    (by
      intro u hu
      simp only [IS, List.mem_cons, List.not_mem_nil, or_false] at hu
      rcases hu with rfl | rfl | rfl <;> rfl) (by simp only [maxLen]; omega) (by omega) hb
  exact ⟨v', w', h1, by rw [cellsI_snoc]; simpa using h2, h3, h5⟩
theorem own_lt {W : World} {base T size n : Nat} {v : Value} {xs : List Value} (h : W.ownsRow base T size v n xs) : ∀ k, v.ownBlock = some k → base ≤ k ∧ k < W.heap.size := by
  intro k hk
  rcases h.2 with ⟨rfl, _⟩ | ⟨g, cap, cur, rfl, hg, hh, r⟩
  · simp [Value.ownBlock] at hk
  · have : g = k := by simpa [Value.ownBlock] using hk
    subst this
    exact ⟨hg, heap_lt hh⟩
theorem Pq.grow {base b : Nat} {v v' : Value} {w W W' : World} (h : Pq base b v w v W) (hg : W.grownBy W' v.ownBlock) (ho : v'.ownBlock = v.ownBlock ∨ v'.ownBlock = some W.heap.size) (hb : ∀ k, v.ownBlock = some k → base ≤ k) (hbw : base ≤ W.heap.size) : Pq base b v w v' W' :=
  ⟨Nat.le_trans h.size hg.size, fun k hk hn hv => (hg.block k (Nat.lt_of_lt_of_le hk h.size) (fun e => hv e.symm)).trans (h.far k hk hn hv),
    fun k hk => by
      rcases ho with q | q
      · exact .inl (by rw [← q]; exact hk)
      · rw [q] at hk
        injection hk with hk
        exact .inr (by have := h.size; omega),
    fun B w0 h1 h2 h3 => (h.bel B w0 h1 h2 h3).grown hg (by omega) (fun k hk => by have := hb k hk; omega)⟩
/-- The world in Push. -/
def PS (base b gt : Nat) (v : Value) (xs : List It) (x : It) (w : World) (k : Nat) (u1 u2 : Value) (W : World) : Prop :=
  match k with
  | 0 => W.heap[b]? = some (.cells #[v] 66 (0, 0)) ∧ W.ownsRow base 40 3 v xs.length (cellsI xs) ∧ W.heap[gt]? = some (.cells (IS x) 40 (0, 0)) ∧ Pq base b v w v W
  | 1 => W.heap[b]? = some (.cells #[v] 66 (0, 0)) ∧ W.ownsRow base 40 3 v xs.length (cellsI xs) ∧ W.heap[gt]? = some (.cells (IS x) 40 (0, 0)) ∧ Pq base b v w v W ∧ ∃ g5, u1 = .slice (some ⟨g5, 0, none⟩) 1 1 ∧ W.heap[g5]? = some (.cells (IS x) 40 (0, 0))
  | 2 => W.heap[b]? = some (.cells #[v] 66 (0, 0)) ∧ W.ownsRow base 40 3 u2 (xs ++ [x]).length (cellsI (xs ++ [x])) ∧ Pq base b v w u2 W
  | _ => PV W base b u2 (xs ++ [x]) ∧ Pq base b v w u2 W
theorem PS.blk {base b gt : Nat} {v : Value} {xs : List It} {x : It} {w : World} {k : Nat} {u1 u2 : Value} {W : World} (h : PS base b gt v xs x w k u1 u2 W) (hk : k ≤ 2) : W.heap[b]? = some (.cells #[v] 66 (0, 0)) := by
  match k, hk, h with
  | 0, _, h => exact h.1
  | 1, _, h => exact h.1
  | 2, _, h => exact h.1
theorem PS.tmp {base b gt : Nat} {v : Value} {xs : List It} {x : It} {w : World} {k : Nat} {u1 u2 : Value} {W : World} (h : PS base b gt v xs x w k u1 u2 W) (hk : k ≤ 1) : W.heap[gt]? = some (.cells (IS x) 40 (0, 0)) := by
  match k, hk, h with
  | 0, _, h => exact h.2.2.1
  | 1, _, h => exact h.2.2.1
theorem ta40 (x : It) (W : World) : (Instr.typeAssert (.iface 40 (.agg (IS x))) 20 40 true).run Try.prog W = .ok (.tuple #[.agg (IS x), .bool true]) W := by
  kernel_rfl
attribute [local go_sem] ta40
theorem bs66 (x : It) (W : World) : (Instr.buildSlice 66 1 #[(0, .agg (IS x))]).run Try.prog W = .ok (.slice (some ⟨W.heap.size, 0, none⟩) 1 1) (W.alloc (.cells (IS x) 40)) := by
  kernel_rfl
theorem own_slice {W : World} {base T size n : Nat} {v : Value} {xs : List Value} (h : W.ownsRow base T size v n xs) : ∃ A c, v = .slice A n c := by
  rcases h.2 with ⟨rfl, h0⟩ | ⟨g, cap, cur, rfl, _⟩
  · exact ⟨none, 0, by rw [h0]⟩
  · exact ⟨_, _, rfl⟩
theorem wp_append_of {o : Oper} {a : Act} {K : Act → World → Prop} {Q : Exit → Act → World → Prop} {W W' : World} {v u v' : Value} (s x : Operand) (ho : o.op = .call { callee := .builtin .append, args := #[s, x], argTypes := #[66, 66] }) (hty : o.type = 66)
    (hs : a.eval s = v) (hx : a.eval x = u) (hr : (Builtin.append_ #[66, 66] 66 #[v, u]).run Try.prog W = .ok v' W') (h : K (a.put o.dst v') W') : o.wp Try.prog a W K Q := by
  unfold Oper.wp execOp
  simp only [ho, hty, resolve, invoke, builtin, Sem.run_bind, Sem.run_pure, Result.andThen_ok, List.map_toArray, List.map_cons, List.map_nil, hs, hx, hr]
  exact h
set_option maxHeartbeats 1000000 in
theorem push_any (base b : Nat) (v : Value) (xs : List It) (x : It) (w : World) (h : PV w base b v xs) (hbase : base ≤ w.heap.size) (hl : xs.length ≤ 2000000) :
    Calls Try.prog 61 #[.pointer (some ⟨b, 0, none⟩), .iface 40 (.agg (IS x))] w fun e w' => e = .returned (.tuple #[]) ∧ ∃ v', PV w' base b v' (xs ++ [x]) ∧ Pq base b v w v' w' := by
  have hnb := h.own_ne
  have hbl := heap_lt h.blk
  have H := Lib.hid h
  have HNB := Lib.hid hnb
  clear h hnb
  go_enter Try.func61, Try.ntmps61
  go_wp2_with (first
    | (refine wpList_store_whole rfl 40 (.tmp 4) (.tmp 9) rfl w.heap.size (IS x) #[.int .i64 0, .int .i64 0, .int .i64 0] 40 rfl rfl (heap_alloc_new w _) rfl (info40 x) (by kernel_rfl) ?_; intro w1 hnew hsz hfar hbel; have HX := Lib.hid hnew; have HB := Lib.hid (hbel _ _ (Nat.le_refl _) (below_alloc (Below.refl w.heap.size w) _)); clear hnew hsz hfar hbel)
    | (refine wpList_load_on (by rfl) 40 (.tmp 4) rfl _ rfl 40 (IS x) (0, 0) _ HX.out Try.underlying40 rfl (info40 x) ?_))
  obtain ⟨gt, hgt⟩ : ∃ gt, gt = w.heap.size := ⟨_, rfl⟩
  rw [← hgt] at HX ⊢
  have hnb := HNB.out
  refine drawn_s3 (w := w1) ([some (.pointer (some ⟨b, 0, none⟩)), some (.pointer (some ⟨b, 0, none⟩)), some (.pointer (some ⟨b, 0, none⟩)), some (v), some (.agg (IS x)), none, none, some (.pointer (some ⟨b, 0, none⟩)), none] : List (Option Value)) 5 6 8 (PS base b gt v xs x w) (by kernel_rfl) (by kernel_rfl) (by kernel_rfl) (by kernel_rfl) (by decide) (by decide) (by decide) (by kernel_rfl) (by kernel_rfl) (by decide) (by decide) (by decide) ?_ ?_ ?_ ?_ ?_ ?_
  · intro i_ v_ hi
    have hl := (List.getElem?_eq_some_iff.1 hi).1
    rcases (show i_ = 0 ∨ i_ = 1 ∨ i_ = 2 ∨ i_ = 3 ∨ i_ = 4 ∨ i_ = 5 ∨ i_ = 6 ∨ i_ = 7 ∨ i_ = 8 by simp at hl; omega) with rfl | rfl | rfl | rfl | rfl | rfl | rfl | rfl | rfl
    · decide
    · decide
    · decide
    · decide
    · decide
    · exact absurd (show some (none : Option Value) = some (some v_) from hi) (by simp)
    · exact absurd (show some (none : Option Value) = some (some v_) from hi) (by simp)
    · decide
    · exact absurd (show some (none : Option Value) = some (some v_) from hi) (by simp)
  · intro i_ hi
    have hl := (List.getElem?_eq_some_iff.1 hi).1
    rcases (show i_ = 0 ∨ i_ = 1 ∨ i_ = 2 ∨ i_ = 3 ∨ i_ = 4 ∨ i_ = 5 ∨ i_ = 6 ∨ i_ = 7 ∨ i_ = 8 by simp at hl; omega) with rfl | rfl | rfl | rfl | rfl | rfl | rfl | rfl | rfl
    · exact absurd (show some (some (.pointer (some ⟨b, 0, none⟩) : Value)) = some none from hi) (by simp)
    · exact absurd (show some (some (.pointer (some ⟨b, 0, none⟩) : Value)) = some none from hi) (by simp)
    · exact absurd (show some (some (.pointer (some ⟨b, 0, none⟩) : Value)) = some none from hi) (by simp)
    · exact absurd (show some (some (v : Value)) = some none from hi) (by simp)
    · exact absurd (show some (some (.agg (IS x) : Value)) = some none from hi) (by simp)
    · decide
    · decide
    · exact absurd (show some (some (.pointer (some ⟨b, 0, none⟩) : Value)) = some none from hi) (by simp)
    · decide
  · intro u1 u2
    exact ⟨(((HB.out.trans (Below.refl _ _).drew).block _ hbl)).trans H.out.blk, pw_own_below H.out.row (HB.out.drew), HX.out, Pq.of_below HB.out.drew hbase⟩
  · intro i_ v_ hi a_ W k_ u1_ u2_ hk1 hk2 hk3 hs ho hS
    have hl := (List.getElem?_eq_some_iff.1 hi).1
    rcases (show i_ = 0 ∨ i_ = 1 ∨ i_ = 2 ∨ i_ = 3 ∨ i_ = 4 ∨ i_ = 5 ∨ i_ = 6 ∨ i_ = 7 ∨ i_ = 8 by simp at hl; omega) with rfl | rfl | rfl | rfl | rfl | rfl | rfl | rfl | rfl
    · obtain rfl : (.pointer (some ⟨b, 0, none⟩) : Value) = v_ := Option.some.inj (Option.some.inj (show some (some (.pointer (some ⟨b, 0, none⟩) : Value)) = some (some v_) from hi))
      clear hi hl
      have e0 : a_.tmps[0]? = some (.pointer (some ⟨b, 0, none⟩)) := (ho 0 (by kernel_rfl)).trans rfl
      refine ⟨_, rfl, fun KR hKR => ?_⟩
      rw [if_pos (show Region.wanted _ _ = true from rfl)]
      clear hs ho
      (go_simp; exact hKR)
    · obtain rfl : (.pointer (some ⟨b, 0, none⟩) : Value) = v_ := Option.some.inj (Option.some.inj (show some (some (.pointer (some ⟨b, 0, none⟩) : Value)) = some (some v_) from hi))
      clear hi hl
      have e0 : a_.tmps[0]? = some (.pointer (some ⟨b, 0, none⟩)) := (ho 0 (by kernel_rfl)).trans rfl
      refine ⟨_, rfl, fun KR hKR => ?_⟩
      rw [if_pos (show Region.wanted _ _ = true from rfl)]
      clear hs ho
      (go_simp; exact hKR)
    · obtain rfl : (.pointer (some ⟨b, 0, none⟩) : Value) = v_ := Option.some.inj (Option.some.inj (show some (some (.pointer (some ⟨b, 0, none⟩) : Value)) = some (some v_) from hi))
      clear hi hl
      have e13 : a_.tmps[13]? = some (.pointer (some ⟨b, 0, none⟩)) := hs 1 (by kernel_rfl) _ rfl 13 rfl
      refine ⟨_, rfl, fun KR hKR => ?_⟩
      rw [if_pos (show Region.wanted _ _ = true from rfl)]
      clear hs ho
      (go_simp; exact hKR)
    · obtain rfl : (v : Value) = v_ := Option.some.inj (Option.some.inj (show some (some (v : Value)) = some (some v_) from hi))
      clear hi hl
      have e14 : a_.tmps[14]? = some (.pointer (some ⟨b, 0, none⟩)) := hs 2 (by kernel_rfl) _ rfl 14 rfl
      refine ⟨_, rfl, fun KR hKR => ?_⟩
      rw [if_pos (show Region.wanted _ _ = true from rfl)]
      clear hs ho
      (have c0 := cell_of_heap (hS.blk (by have := hk2 (by kernel_rfl); omega)) (j := 0) rfl; go_simp; exact hKR)
    · obtain rfl : (.agg (IS x) : Value) = v_ := Option.some.inj (Option.some.inj (show some (some (.agg (IS x) : Value)) = some (some v_) from hi))
      clear hi hl
      have e4 : a_.tmps[4]? = some (.pointer (some ⟨gt, 0, none⟩)) := (ho 4 (by kernel_rfl)).trans rfl
      refine ⟨_, rfl, fun KR hKR => ?_⟩
      rw [if_pos (show Region.wanted _ _ = true from rfl)]
      clear hs ho
      (refine wp_load_row 40 (.tmp 4) rfl _ (by simp [Act.eval, e4]) 40 _ (0, 0) _ (hS.tmp (by have := hk1 (by kernel_rfl); omega)) Try.underlying40 rfl (info40 x) ?_; exact hKR)
    · exact absurd (show some (none : Option Value) = some (some v_) from hi) (by simp)
    · exact absurd (show some (none : Option Value) = some (some v_) from hi) (by simp)
    · obtain rfl : (.pointer (some ⟨b, 0, none⟩) : Value) = v_ := Option.some.inj (Option.some.inj (show some (some (.pointer (some ⟨b, 0, none⟩) : Value)) = some (some v_) from hi))
      clear hi hl
      have e12 : a_.tmps[12]? = some (.pointer (some ⟨b, 0, none⟩)) := hs 0 (by kernel_rfl) _ rfl 12 rfl
      refine ⟨_, rfl, fun KR hKR => ?_⟩
      rw [if_pos (show Region.wanted _ _ = true from rfl)]
      clear hs ho
      (go_simp; exact hKR)
    · exact absurd (show some (none : Option Value) = some (some v_) from hi) (by simp)
  · intro a_ W k_ u1_ u2_ i_ hc hs h1 h2 ho hS
    rcases hc with ⟨rfl, rfl⟩ | ⟨rfl, rfl⟩ | ⟨rfl, rfl⟩
    · have e16 : a_.tmps[16]? = some (.agg (IS x)) := hs 4 (by kernel_rfl) _ rfl 16 rfl
      refine ⟨_, rfl, fun KR hKR => ?_⟩
      rw [if_pos (show Region.wanted _ _ = true from rfl)]
      clear hs ho h1 h2
      obtain ⟨q1, q2, q3, q4⟩ := hS
      refine wp_of_run (exec_buildSlice (l := [(0, .tmp 16)]) rfl (by simp only [List.map_cons, List.map_nil, Act.eval, Array.getD_eq_getD_getElem?, e16, Option.getD_some]; exact bs66 x W)) ?_
      have hb := below_alloc (Below.refl W.heap.size W) (.cells (IS x) 40)
      exact hKR _ _ ⟨(hb.block _ (heap_lt q1)).trans q1, pw_own_below q2 hb, (hb.block _ (heap_lt q3)).trans q3, q4.trans (Pq.of_below hb (Nat.le_trans hbase q4.size)), _, rfl, heap_alloc_new W _⟩
    · have e15 : a_.tmps[15]? = some (v) := hs 3 (by kernel_rfl) _ rfl 15 rfl
      have e17 : a_.tmps[17]? = some u1_ := h1 (by decide) 17 (by kernel_rfl) rfl
      refine ⟨_, rfl, fun KR hKR => ?_⟩
      rw [if_pos (show Region.wanted _ _ = true from rfl)]
      clear hs ho h1 h2
      obtain ⟨q1, q2, q3, q4, g5, rfl, q6⟩ := hS
      obtain ⟨v', W', r1, r2, r3, r4⟩ := app_one q2 q6 (Nat.le_trans hbase q4.size) hl 66
      refine wp_append_of (.tmp 15) (.tmp 17) rfl rfl (by simp [Act.eval, e15]) (by simp [Act.eval, e17]) r1 ?_
      exact hKR _ _ ⟨(r3.block b (heap_lt q1) (fun e => hnb e.symm)).trans q1, r2, q4.grow r3 r4 (fun k hk => (own_lt q2 k hk).1) (Nat.le_trans hbase q4.size)⟩
    · have e19 : a_.tmps[19]? = some (.pointer (some ⟨b, 0, none⟩)) := hs 7 (by kernel_rfl) _ rfl 19 rfl
      have e18 : a_.tmps[18]? = some u2_ := h2 (by decide) 18 (by kernel_rfl) rfl
      refine ⟨_, rfl, fun KR hKR => ?_⟩
      rw [if_pos (show Region.wanted _ _ = true from rfl)]
      clear hs ho h1 h2
      obtain ⟨q1, q2, q3⟩ := hS
      have c0 := cell_of_heap q1 (j := 0) rfl
      have f0 := frozen_of_heap q1 (j := 0)
      have hlen : (xs ++ [x]).length = xs.length + 1 := by simp
      rw [hlen] at q2
      obtain ⟨A8, c8, rfl⟩ := own_slice q2
      go_simp
      refine hKR undef _ ⟨PV.put (v := v) q1 (by rw [hlen]; exact q2) ?_, q3.put _⟩
      intro e
      rcases q3.own b e with q | q
      · exact hnb q
      · omega
  · intro vals_ W hv hS
    have v0 : vals_ 0 = .pointer (some ⟨b, 0, none⟩) := hv 0 _ rfl
    have v1 : vals_ 1 = .pointer (some ⟨b, 0, none⟩) := hv 1 _ rfl
    have v2 : vals_ 2 = .pointer (some ⟨b, 0, none⟩) := hv 2 _ rfl
    have v3 : vals_ 3 = v := hv 3 _ rfl
    have v4 : vals_ 4 = .agg (IS x) := hv 4 _ rfl
    have v7 : vals_ 7 = .pointer (some ⟨b, 0, none⟩) := hv 7 _ rfl
    obtain ⟨u2_, hu2⟩ : ∃ u, u = vals_ 6 := ⟨_, rfl⟩
    obtain ⟨u1_, hu1⟩ : ∃ u, u = vals_ 5 := ⟨_, rfl⟩
    rw [← hu1, ← hu2] at hS
    simp only [List.length_cons, List.length_nil, Nat.zero_add, Nat.reduceAdd, List.size_toArray, slots, if_true, dstOf, List.getElem?_toArray, List.getElem?_cons_zero, List.getElem?_cons_succ, Option.bind_some, Act.put, List.setIfInBounds_toArray, List.set_cons_zero, List.set_cons_succ, ← hu1, ← hu2, v0, v1, v2, v3, v4, v7]
    clear hv hu1 hu2 v0 v1 v2 v3 v4 v7
    change wpAny _ _ _ _ 0 _ _ _
    refine wpAny_done (by kernel_rfl) ?_ _
    go_end0
    exact ⟨rfl, u2_, hS.1, hS.2⟩
end Go.Proofs.Ytndfoohdoadkfaa
