/- pile's Less and Swap. -/
import Derived.Test.YtndfoohdoadkfaaQB
set_option linter.unusedVariables false
set_option linter.unusedSimpArgs false
namespace Go.Proofs.Ytndfoohdoadkfaa
open Go.RowKit
theorem pw_own_below {w W : World} {base T size n : Nat} {v : Value} {xs : List Value} (h : w.ownsRow base T size v n xs) (hb : Below w.heap.size w W) : W.ownsRow base T size v n xs := by
  refine ⟨h.1, ?_⟩
  rcases h.2 with e | ⟨g, cap, cur, e, hg, hh, r⟩
  · exact .inl e
  · exact .inr ⟨g, cap, cur, e, hg, (hb.block _ (heap_lt hh)).trans hh, r⟩
set_option maxHeartbeats 1000000 in
theorem less_any (base g n cap i k : Nat) (xs : List It) (x y : It) (w : World) (h : w.ownsRow base 40 3 (.slice (some ⟨g, 0, none⟩) n cap) n (cellsI xs)) (hi : i < n) (hk : k < n) (hx : xs[i]? = some x) (hy : xs[k]? = some y) :
    Calls Try.prog 59 #[.slice (some ⟨g, 0, none⟩) n cap, .int .i64 i, .int .i64 k] w fun e w' => e = .returned (.bool (befB x y)) ∧ Below w.heap.size w w' := by
  have HO := Lib.hid h
  have Hx := Lib.hid hx
  have Hy := Lib.hid hy
  clear h hx hy
  go_enter Try.func59, Try.ntmps59
  go_wp2
  refine drawn_st (w := w) ([Lf.v (.slice (some ⟨g, 0, none⟩) n cap), Lf.v (.int .i64 i), Lf.v (.pointer (some ⟨g, i * 3, none⟩)), Lf.v (.agg (IS x)), Lf.v (.slice (some ⟨g, 0, none⟩) n cap), Lf.v (.int .i64 k), Lf.v (.pointer (some ⟨g, k * 3, none⟩)), Lf.v (.agg (IS y)), Lf.v (.bool (befB x y)), Lf.v (.bool (befB x y))] : List Lf) (by kernel_rfl) (by kernel_rfl) (by kernel_rfl) (by kernel_rfl) ?_ ?_ ?_ ?_
  · intro i_ v_ hi a_ W hs ho hB
    have hl := (List.getElem?_eq_some_iff.1 hi).1
    rcases (show i_ = 0 ∨ i_ = 1 ∨ i_ = 2 ∨ i_ = 3 ∨ i_ = 4 ∨ i_ = 5 ∨ i_ = 6 ∨ i_ = 7 ∨ i_ = 8 ∨ i_ = 9 by simp at hl; omega) with rfl | rfl | rfl | rfl | rfl | rfl | rfl | rfl | rfl | rfl
    · obtain rfl : (.slice (some ⟨g, 0, none⟩) n cap) = v_ := Lf.v.inj (Option.some.inj (show some (Lf.v (.slice (some ⟨g, 0, none⟩) n cap)) = some (Lf.v v_) from hi))
      clear hi hl
      have e0 : a_.tmps[0]? = some (.slice (some ⟨g, 0, none⟩) n cap) := (ho 0 (by kernel_rfl)).trans rfl
      refine ⟨_, rfl, fun KR hKR => ?_⟩
      rw [if_pos (show Region.wanted _ _ = true from rfl)]
      clear hs ho
      go_simp
      exact hKR _ (Below.refl _ _)
    · obtain rfl : (.int .i64 i) = v_ := Lf.v.inj (Option.some.inj (show some (Lf.v (.int .i64 i)) = some (Lf.v v_) from hi))
      clear hi hl
      have e1 : a_.tmps[1]? = some (.int .i64 i) := (ho 1 (by kernel_rfl)).trans rfl
      refine ⟨_, rfl, fun KR hKR => ?_⟩
      rw [if_pos (show Region.wanted _ _ = true from rfl)]
      clear hs ho
      go_simp
      exact hKR _ (Below.refl _ _)
    · obtain rfl : (.pointer (some ⟨g, i * 3, none⟩)) = v_ := Lf.v.inj (Option.some.inj (show some (Lf.v (.pointer (some ⟨g, i * 3, none⟩))) = some (Lf.v v_) from hi))
      clear hi hl
      have e7 : a_.tmps[7]? = some (.slice (some ⟨g, 0, none⟩) n cap) := hs 0 (by kernel_rfl) _ rfl 7 rfl
      have e8 : a_.tmps[8]? = some (.int .i64 i) := hs 1 (by kernel_rfl) _ rfl 8 rfl
      refine ⟨_, rfl, fun KR hKR => ?_⟩
      rw [if_pos (show Region.wanted _ _ = true from rfl)]
      clear hs ho
      go_simp
      exact hKR _ (Below.refl _ _)
    · obtain rfl : (.agg (IS x)) = v_ := Lf.v.inj (Option.some.inj (show some (Lf.v (.agg (IS x))) = some (Lf.v v_) from hi))
      clear hi hl
      have e9 : a_.tmps[9]? = some (.pointer (some ⟨g, i * 3, none⟩)) := hs 2 (by kernel_rfl) _ rfl 9 rfl
      refine ⟨_, rfl, fun KR hKR => ?_⟩
      rw [if_pos (show Region.wanted _ _ = true from rfl)]
      clear hs ho
      (refine wp_load_mid 40 (.tmp 9) rfl g (i * 3) (by simp [Act.eval, e9]) (IS x).toList _ (row_range (pw_own_below HO.out hB) Hx.out) Try.underlying40 rfl (info40 x) ?_; exact hKR _ (Below.refl _ _))
    · obtain rfl : (.slice (some ⟨g, 0, none⟩) n cap) = v_ := Lf.v.inj (Option.some.inj (show some (Lf.v (.slice (some ⟨g, 0, none⟩) n cap)) = some (Lf.v v_) from hi))
      clear hi hl
      have e0 : a_.tmps[0]? = some (.slice (some ⟨g, 0, none⟩) n cap) := (ho 0 (by kernel_rfl)).trans rfl
      refine ⟨_, rfl, fun KR hKR => ?_⟩
      rw [if_pos (show Region.wanted _ _ = true from rfl)]
      clear hs ho
      go_simp
      exact hKR _ (Below.refl _ _)
    · obtain rfl : (.int .i64 k) = v_ := Lf.v.inj (Option.some.inj (show some (Lf.v (.int .i64 k)) = some (Lf.v v_) from hi))
      clear hi hl
      have e2 : a_.tmps[2]? = some (.int .i64 k) := (ho 2 (by kernel_rfl)).trans rfl
      refine ⟨_, rfl, fun KR hKR => ?_⟩
      rw [if_pos (show Region.wanted _ _ = true from rfl)]
      clear hs ho
      go_simp
      exact hKR _ (Below.refl _ _)
    · obtain rfl : (.pointer (some ⟨g, k * 3, none⟩)) = v_ := Lf.v.inj (Option.some.inj (show some (Lf.v (.pointer (some ⟨g, k * 3, none⟩))) = some (Lf.v v_) from hi))
      clear hi hl
      have e11 : a_.tmps[11]? = some (.slice (some ⟨g, 0, none⟩) n cap) := hs 4 (by kernel_rfl) _ rfl 11 rfl
      have e12 : a_.tmps[12]? = some (.int .i64 k) := hs 5 (by kernel_rfl) _ rfl 12 rfl
      refine ⟨_, rfl, fun KR hKR => ?_⟩
      rw [if_pos (show Region.wanted _ _ = true from rfl)]
      clear hs ho
      go_simp
      exact hKR _ (Below.refl _ _)
    · obtain rfl : (.agg (IS y)) = v_ := Lf.v.inj (Option.some.inj (show some (Lf.v (.agg (IS y))) = some (Lf.v v_) from hi))
      clear hi hl
      have e13 : a_.tmps[13]? = some (.pointer (some ⟨g, k * 3, none⟩)) := hs 6 (by kernel_rfl) _ rfl 13 rfl
      refine ⟨_, rfl, fun KR hKR => ?_⟩
      rw [if_pos (show Region.wanted _ _ = true from rfl)]
      clear hs ho
      (refine wp_load_mid 40 (.tmp 13) rfl g (k * 3) (by simp [Act.eval, e13]) (IS y).toList _ (row_range (pw_own_below HO.out hB) Hy.out) Try.underlying40 rfl (info40 y) ?_; exact hKR _ (Below.refl _ _))
    · obtain rfl : (.bool (befB x y)) = v_ := Lf.v.inj (Option.some.inj (show some (Lf.v (.bool (befB x y))) = some (Lf.v v_) from hi))
      clear hi hl
      have e10 : a_.tmps[10]? = some (.agg (IS x)) := hs 3 (by kernel_rfl) _ rfl 10 rfl
      have e14 : a_.tmps[14]? = some (.agg (IS y)) := hs 7 (by kernel_rfl) _ rfl 14 rfl
      refine ⟨_, rfl, fun KR hKR => ?_⟩
      rw [if_pos (show Region.wanted _ _ = true from rfl)]
      clear hs ho
      go_simp
      (go_at_call 17; refine (bef_any _ _ _).mono ?_; rintro e w1 ⟨rfl, hb⟩)
      exact hKR _ hb
    · obtain rfl : (.bool (befB x y)) = v_ := Lf.v.inj (Option.some.inj (show some (Lf.v (.bool (befB x y))) = some (Lf.v v_) from hi))
      clear hi hl
      have e15 : a_.tmps[15]? = some (.bool (befB x y)) := hs 8 (by kernel_rfl) _ rfl 15 rfl
      refine ⟨_, rfl, fun KR hKR => ?_⟩
      rw [if_pos (show Region.wanted _ _ = true from rfl)]
      clear hs ho
      go_simp
      exact hKR _ (Below.refl _ _)
  · intro i_ T_ Z_ S_ k_ hi a_ W
    have hl := (List.getElem?_eq_some_iff.1 hi).1
    rcases (show i_ = 0 ∨ i_ = 1 ∨ i_ = 2 ∨ i_ = 3 ∨ i_ = 4 ∨ i_ = 5 ∨ i_ = 6 ∨ i_ = 7 ∨ i_ = 8 ∨ i_ = 9 by simp at hl; omega) with rfl | rfl | rfl | rfl | rfl | rfl | rfl | rfl | rfl | rfl
    · exact Lf.noConfusion (Option.some.inj (show some (Lf.v (.slice (some ⟨g, 0, none⟩) n cap)) = some (Lf.nw T_ Z_ S_ k_) from hi))
    · exact Lf.noConfusion (Option.some.inj (show some (Lf.v (.int .i64 i)) = some (Lf.nw T_ Z_ S_ k_) from hi))
    · exact Lf.noConfusion (Option.some.inj (show some (Lf.v (.pointer (some ⟨g, i * 3, none⟩))) = some (Lf.nw T_ Z_ S_ k_) from hi))
    · exact Lf.noConfusion (Option.some.inj (show some (Lf.v (.agg (IS x))) = some (Lf.nw T_ Z_ S_ k_) from hi))
    · exact Lf.noConfusion (Option.some.inj (show some (Lf.v (.slice (some ⟨g, 0, none⟩) n cap)) = some (Lf.nw T_ Z_ S_ k_) from hi))
    · exact Lf.noConfusion (Option.some.inj (show some (Lf.v (.int .i64 k)) = some (Lf.nw T_ Z_ S_ k_) from hi))
    · exact Lf.noConfusion (Option.some.inj (show some (Lf.v (.pointer (some ⟨g, k * 3, none⟩))) = some (Lf.nw T_ Z_ S_ k_) from hi))
    · exact Lf.noConfusion (Option.some.inj (show some (Lf.v (.agg (IS y))) = some (Lf.nw T_ Z_ S_ k_) from hi))
    · exact Lf.noConfusion (Option.some.inj (show some (Lf.v (.bool (befB x y))) = some (Lf.nw T_ Z_ S_ k_) from hi))
    · exact Lf.noConfusion (Option.some.inj (show some (Lf.v (.bool (befB x y))) = some (Lf.nw T_ Z_ S_ k_) from hi))
  · intro i_ m_ T_ Z_ S_ hi hm_ a_ W g_ hp_ hg hs
    have hl := (List.getElem?_eq_some_iff.1 hi).1
    rcases (show i_ = 0 ∨ i_ = 1 ∨ i_ = 2 ∨ i_ = 3 ∨ i_ = 4 ∨ i_ = 5 ∨ i_ = 6 ∨ i_ = 7 ∨ i_ = 8 ∨ i_ = 9 by simp at hl; omega) with rfl | rfl | rfl | rfl | rfl | rfl | rfl | rfl | rfl | rfl
    · exact Lf.noConfusion (Option.some.inj (show some (Lf.v (.slice (some ⟨g, 0, none⟩) n cap)) = some (Lf.st m_) from hi))
    · exact Lf.noConfusion (Option.some.inj (show some (Lf.v (.int .i64 i)) = some (Lf.st m_) from hi))
    · exact Lf.noConfusion (Option.some.inj (show some (Lf.v (.pointer (some ⟨g, i * 3, none⟩))) = some (Lf.st m_) from hi))
    · exact Lf.noConfusion (Option.some.inj (show some (Lf.v (.agg (IS x))) = some (Lf.st m_) from hi))
    · exact Lf.noConfusion (Option.some.inj (show some (Lf.v (.slice (some ⟨g, 0, none⟩) n cap)) = some (Lf.st m_) from hi))
    · exact Lf.noConfusion (Option.some.inj (show some (Lf.v (.int .i64 k)) = some (Lf.st m_) from hi))
    · exact Lf.noConfusion (Option.some.inj (show some (Lf.v (.pointer (some ⟨g, k * 3, none⟩))) = some (Lf.st m_) from hi))
    · exact Lf.noConfusion (Option.some.inj (show some (Lf.v (.agg (IS y))) = some (Lf.st m_) from hi))
    · exact Lf.noConfusion (Option.some.inj (show some (Lf.v (.bool (befB x y))) = some (Lf.st m_) from hi))
    · exact Lf.noConfusion (Option.some.inj (show some (Lf.v (.bool (befB x y))) = some (Lf.st m_) from hi))
  · intro b_ vals_ W hall hI
    have hB := hI.bel
    have v0 : vals_ 0 = .slice (some ⟨g, 0, none⟩) n cap := hI.has 0 (Nat.le_of_ble_eq_true rfl) (hall 0 (Nat.le_of_ble_eq_true rfl))
    have v1 : vals_ 1 = .int .i64 i := hI.has 1 (Nat.le_of_ble_eq_true rfl) (hall 1 (Nat.le_of_ble_eq_true rfl))
    have v2 : vals_ 2 = .pointer (some ⟨g, i * 3, none⟩) := hI.has 2 (Nat.le_of_ble_eq_true rfl) (hall 2 (Nat.le_of_ble_eq_true rfl))
    have v3 : vals_ 3 = .agg (IS x) := hI.has 3 (Nat.le_of_ble_eq_true rfl) (hall 3 (Nat.le_of_ble_eq_true rfl))
    have v4 : vals_ 4 = .slice (some ⟨g, 0, none⟩) n cap := hI.has 4 (Nat.le_of_ble_eq_true rfl) (hall 4 (Nat.le_of_ble_eq_true rfl))
    have v5 : vals_ 5 = .int .i64 k := hI.has 5 (Nat.le_of_ble_eq_true rfl) (hall 5 (Nat.le_of_ble_eq_true rfl))
    have v6 : vals_ 6 = .pointer (some ⟨g, k * 3, none⟩) := hI.has 6 (Nat.le_of_ble_eq_true rfl) (hall 6 (Nat.le_of_ble_eq_true rfl))
    have v7 : vals_ 7 = .agg (IS y) := hI.has 7 (Nat.le_of_ble_eq_true rfl) (hall 7 (Nat.le_of_ble_eq_true rfl))
    have v8 : vals_ 8 = .bool (befB x y) := hI.has 8 (Nat.le_of_ble_eq_true rfl) (hall 8 (Nat.le_of_ble_eq_true rfl))
    have v9 : vals_ 9 = .bool (befB x y) := hI.has 9 (Nat.le_of_ble_eq_true rfl) (hall 9 (Nat.le_of_ble_eq_true rfl))
    simp only [List.length_cons, List.length_nil, Nat.zero_add, Nat.reduceAdd, List.size_toArray, slots, if_true, dstOf, List.getElem?_toArray, List.getElem?_cons_zero, List.getElem?_cons_succ, Option.bind_some, Act.put, List.setIfInBounds_toArray, List.set_cons_zero, List.set_cons_succ, v0, v1, v2, v3, v4, v5, v6, v7, v8, v9]
    clear hI hall v0 v1 v2 v3 v4 v5 v6 v7 v8 v9
    change wpAny _ _ _ _ 0 _ _ _
    refine wpAny_done (by kernel_rfl) ?_ _
    go_wp2
    go_ret
    exact ⟨rfl, hB⟩
/-- What a store into the row of g changes. -/
structure Rw (g : Nat) (W W' : World) : Prop where
  size : W'.heap.size = W.heap.size
  far : ∀ k, k ≠ g → W'.heap[k]? = W.heap[k]?
  bel : ∀ B w0, B ≤ g → Below B w0 W → Below B w0 W'
theorem Rw.trans {g : Nat} {W W' W'' : World} (h : Rw g W W') (k : Rw g W' W'') : Rw g W W'' := ⟨k.size.trans h.size, fun j hj => (k.far j hj).trans (h.far j hj), fun B w0 hB hb => k.bel B w0 hB (h.bel B w0 hB hb)⟩
theorem Rw.refl (g : Nat) (W : World) : Rw g W W := ⟨rfl, fun _ _ => rfl, fun _ _ _ h => h⟩
theorem Rw.cells (g o : Nat) (W : World) (vs : List Value) : Rw g W (W.setCells g o vs) := ⟨setCells_size g vs o W, fun k hk => setCells_far g k hk vs o W, fun B w0 hB hb => setCells_below g vs o B w0 W hB hb⟩
def swapL (xs : List It) (i k : Nat) (x y : It) : List It := (xs.set i y).set k x
/-- The world in Swap. -/
def SwS (base g n cap i k : Nat) (xs : List It) (x y : It) (w : World) (t1 t2 : Bool) (W : World) : Prop :=
  W.ownsRow base 40 3 (.slice (some ⟨g, 0, none⟩) n cap) n (cellsI (match t1, t2 with | false, _ => xs | true, false => xs.set i y | true, true => swapL xs i k x y)) ∧ Rw g w W
theorem SwS.one {base g n cap i k : Nat} {xs : List It} {x y : It} {w W : World} (h : SwS base g n cap i k xs x y w false false W) (hn : xs.length = n) (hi : i < n) : SwS base g n cap i k xs x y w true false (W.setCells g (i * 3) (IS y).toList) :=
  ⟨row_set h.1 hn hi, h.2.trans (Rw.cells _ _ _ _)⟩
theorem SwS.two {base g n cap i k : Nat} {xs : List It} {x y : It} {w W : World} (h : SwS base g n cap i k xs x y w true false W) (hn : xs.length = n) (hk : k < n) : SwS base g n cap i k xs x y w true true (W.setCells g (k * 3) (IS x).toList) :=
  ⟨row_set h.1 (by simpa using hn) hk, h.2.trans (Rw.cells _ _ _ _)⟩
theorem own_drew {W : World} {base T size n : Nat} {v : Value} {xs : List Value} (h : W.ownsRow base T size v n xs) : W.drew.ownsRow base T size v n xs := pw_own_below h (Below.refl _ _).drew
set_option maxHeartbeats 1000000 in
theorem swap_any (base g n cap i k : Nat) (xs : List It) (x y : It) (w : World) (h : w.ownsRow base 40 3 (.slice (some ⟨g, 0, none⟩) n cap) n (cellsI xs)) (hn : xs.length = n) (hi : i < n) (hk : k < n) (hx : xs[i]? = some x) (hy : xs[k]? = some y) :
    Calls Try.prog 62 #[.slice (some ⟨g, 0, none⟩) n cap, .int .i64 i, .int .i64 k] w fun e w' => e = .returned (.tuple #[]) ∧ w'.ownsRow base 40 3 (.slice (some ⟨g, 0, none⟩) n cap) n (cellsI (swapL xs i k x y)) ∧ Rw g w w' := by
  have HO := Lib.hid h
  have Hx := Lib.hid hx
  have Hy := Lib.hid hy
  clear h hx hy
  go_enter Try.func62, Try.ntmps62
  refine drawn_w2 (w := w) ([.slice (some ⟨g, 0, none⟩) n cap, .int .i64 i, .slice (some ⟨g, 0, none⟩) n cap, .int .i64 k, .slice (some ⟨g, 0, none⟩) n cap, .int .i64 k, .pointer (some ⟨g, k * 3, none⟩), .agg (IS y), .slice (some ⟨g, 0, none⟩) n cap, .int .i64 i, .pointer (some ⟨g, i * 3, none⟩), .agg (IS x), .pointer (some ⟨g, i * 3, none⟩), undef, .pointer (some ⟨g, k * 3, none⟩), undef] : List Value) 13 15 (SwS base g n cap i k xs x y w) (by kernel_rfl) (by kernel_rfl) (by kernel_rfl) (by kernel_rfl) (by decide) (by decide) ?_ ?_ ?_
  · exact ⟨own_drew HO.out, ⟨rfl, fun _ _ => rfl, fun B w0 hB hb => hb.drew⟩⟩
  · intro i_ v_ hi a_ W t1_ t2_ hn1 hn2 hy1 hy2 hs ho hS
    have hl := (List.getElem?_eq_some_iff.1 hi).1
    rcases (show i_ = 0 ∨ i_ = 1 ∨ i_ = 2 ∨ i_ = 3 ∨ i_ = 4 ∨ i_ = 5 ∨ i_ = 6 ∨ i_ = 7 ∨ i_ = 8 ∨ i_ = 9 ∨ i_ = 10 ∨ i_ = 11 ∨ i_ = 12 ∨ i_ = 13 ∨ i_ = 14 ∨ i_ = 15 by simp at hl; omega) with rfl | rfl | rfl | rfl | rfl | rfl | rfl | rfl | rfl | rfl | rfl | rfl | rfl | rfl | rfl | rfl
    · obtain rfl : (.slice (some ⟨g, 0, none⟩) n cap : Value) = v_ := Option.some.inj (show some (.slice (some ⟨g, 0, none⟩) n cap : Value) = some v_ from hi)
      clear hi hl
      have e0 : a_.tmps[0]? = some (.slice (some ⟨g, 0, none⟩) n cap) := (ho 0 (by kernel_rfl)).trans rfl
      refine ⟨_, rfl, fun KR hKR => ?_⟩
      rw [if_pos (show Region.wanted _ _ = true from rfl)]
      clear hs ho
      (go_simp; exact hKR _ (by simpa using hS))
    · obtain rfl : (.int .i64 i : Value) = v_ := Option.some.inj (show some (.int .i64 i : Value) = some v_ from hi)
      clear hi hl
      have e1 : a_.tmps[1]? = some (.int .i64 i) := (ho 1 (by kernel_rfl)).trans rfl
      refine ⟨_, rfl, fun KR hKR => ?_⟩
      rw [if_pos (show Region.wanted _ _ = true from rfl)]
      clear hs ho
      (go_simp; exact hKR _ (by simpa using hS))
    · obtain rfl : (.slice (some ⟨g, 0, none⟩) n cap : Value) = v_ := Option.some.inj (show some (.slice (some ⟨g, 0, none⟩) n cap : Value) = some v_ from hi)
      clear hi hl
      have e0 : a_.tmps[0]? = some (.slice (some ⟨g, 0, none⟩) n cap) := (ho 0 (by kernel_rfl)).trans rfl
      refine ⟨_, rfl, fun KR hKR => ?_⟩
      rw [if_pos (show Region.wanted _ _ = true from rfl)]
      clear hs ho
      (go_simp; exact hKR _ (by simpa using hS))
    · obtain rfl : (.int .i64 k : Value) = v_ := Option.some.inj (show some (.int .i64 k : Value) = some v_ from hi)
      clear hi hl
      have e2 : a_.tmps[2]? = some (.int .i64 k) := (ho 2 (by kernel_rfl)).trans rfl
      refine ⟨_, rfl, fun KR hKR => ?_⟩
      rw [if_pos (show Region.wanted _ _ = true from rfl)]
      clear hs ho
      (go_simp; exact hKR _ (by simpa using hS))
    · obtain rfl : (.slice (some ⟨g, 0, none⟩) n cap : Value) = v_ := Option.some.inj (show some (.slice (some ⟨g, 0, none⟩) n cap : Value) = some v_ from hi)
      clear hi hl
      have e0 : a_.tmps[0]? = some (.slice (some ⟨g, 0, none⟩) n cap) := (ho 0 (by kernel_rfl)).trans rfl
      refine ⟨_, rfl, fun KR hKR => ?_⟩
      rw [if_pos (show Region.wanted _ _ = true from rfl)]
      clear hs ho
      (go_simp; exact hKR _ (by simpa using hS))
    · obtain rfl : (.int .i64 k : Value) = v_ := Option.some.inj (show some (.int .i64 k : Value) = some v_ from hi)
      clear hi hl
      have e2 : a_.tmps[2]? = some (.int .i64 k) := (ho 2 (by kernel_rfl)).trans rfl
      refine ⟨_, rfl, fun KR hKR => ?_⟩
      rw [if_pos (show Region.wanted _ _ = true from rfl)]
      clear hs ho
      (go_simp; exact hKR _ (by simpa using hS))
    · obtain rfl : (.pointer (some ⟨g, k * 3, none⟩) : Value) = v_ := Option.some.inj (show some (.pointer (some ⟨g, k * 3, none⟩) : Value) = some v_ from hi)
      clear hi hl
      have e10 : a_.tmps[10]? = some (.slice (some ⟨g, 0, none⟩) n cap) := hs 4 (by kernel_rfl) _ rfl 10 rfl
      have e11 : a_.tmps[11]? = some (.int .i64 k) := hs 5 (by kernel_rfl) _ rfl 11 rfl
      refine ⟨_, rfl, fun KR hKR => ?_⟩
      rw [if_pos (show Region.wanted _ _ = true from rfl)]
      clear hs ho
      (go_simp; exact hKR _ (by simpa using hS))
    · obtain rfl : (.agg (IS y) : Value) = v_ := Option.some.inj (show some (.agg (IS y) : Value) = some v_ from hi)
      clear hi hl
      have e12 : a_.tmps[12]? = some (.pointer (some ⟨g, k * 3, none⟩)) := hs 6 (by kernel_rfl) _ rfl 12 rfl
      refine ⟨_, rfl, fun KR hKR => ?_⟩
      rw [if_pos (show Region.wanted _ _ = true from rfl)]
      clear hs ho
      (obtain rfl := hn1 (.inr (by kernel_rfl)); obtain rfl := hn2 (.inr (by kernel_rfl)); refine wp_load_mid 40 (.tmp 12) rfl g (k * 3) (by simp [Act.eval, e12]) (IS y).toList _ (row_range hS.1 Hy.out) Try.underlying40 rfl (info40 y) ?_; exact hKR _ hS)
    · obtain rfl : (.slice (some ⟨g, 0, none⟩) n cap : Value) = v_ := Option.some.inj (show some (.slice (some ⟨g, 0, none⟩) n cap : Value) = some v_ from hi)
      clear hi hl
      have e0 : a_.tmps[0]? = some (.slice (some ⟨g, 0, none⟩) n cap) := (ho 0 (by kernel_rfl)).trans rfl
      refine ⟨_, rfl, fun KR hKR => ?_⟩
      rw [if_pos (show Region.wanted _ _ = true from rfl)]
      clear hs ho
      (go_simp; exact hKR _ (by simpa using hS))
    · obtain rfl : (.int .i64 i : Value) = v_ := Option.some.inj (show some (.int .i64 i : Value) = some v_ from hi)
      clear hi hl
      have e1 : a_.tmps[1]? = some (.int .i64 i) := (ho 1 (by kernel_rfl)).trans rfl
      refine ⟨_, rfl, fun KR hKR => ?_⟩
      rw [if_pos (show Region.wanted _ _ = true from rfl)]
      clear hs ho
      (go_simp; exact hKR _ (by simpa using hS))
    · obtain rfl : (.pointer (some ⟨g, i * 3, none⟩) : Value) = v_ := Option.some.inj (show some (.pointer (some ⟨g, i * 3, none⟩) : Value) = some v_ from hi)
      clear hi hl
      have e14 : a_.tmps[14]? = some (.slice (some ⟨g, 0, none⟩) n cap) := hs 8 (by kernel_rfl) _ rfl 14 rfl
      have e15 : a_.tmps[15]? = some (.int .i64 i) := hs 9 (by kernel_rfl) _ rfl 15 rfl
      refine ⟨_, rfl, fun KR hKR => ?_⟩
      rw [if_pos (show Region.wanted _ _ = true from rfl)]
      clear hs ho
      (go_simp; exact hKR _ (by simpa using hS))
    · obtain rfl : (.agg (IS x) : Value) = v_ := Option.some.inj (show some (.agg (IS x) : Value) = some v_ from hi)
      clear hi hl
      have e16 : a_.tmps[16]? = some (.pointer (some ⟨g, i * 3, none⟩)) := hs 10 (by kernel_rfl) _ rfl 16 rfl
      refine ⟨_, rfl, fun KR hKR => ?_⟩
      rw [if_pos (show Region.wanted _ _ = true from rfl)]
      clear hs ho
      (obtain rfl := hn1 (.inr (by kernel_rfl)); obtain rfl := hn2 (.inr (by kernel_rfl)); refine wp_load_mid 40 (.tmp 16) rfl g (i * 3) (by simp [Act.eval, e16]) (IS x).toList _ (row_range hS.1 Hx.out) Try.underlying40 rfl (info40 x) ?_; exact hKR _ hS)
    · obtain rfl : (.pointer (some ⟨g, i * 3, none⟩) : Value) = v_ := Option.some.inj (show some (.pointer (some ⟨g, i * 3, none⟩) : Value) = some v_ from hi)
      clear hi hl
      have e6 : a_.tmps[6]? = some (.slice (some ⟨g, 0, none⟩) n cap) := hs 0 (by kernel_rfl) _ rfl 6 rfl
      have e7 : a_.tmps[7]? = some (.int .i64 i) := hs 1 (by kernel_rfl) _ rfl 7 rfl
      refine ⟨_, rfl, fun KR hKR => ?_⟩
      rw [if_pos (show Region.wanted _ _ = true from rfl)]
      clear hs ho
      (go_simp; exact hKR _ (by simpa using hS))
    · obtain rfl : (undef : Value) = v_ := Option.some.inj (show some (undef : Value) = some v_ from hi)
      clear hi hl
      have e18 : a_.tmps[18]? = some (.pointer (some ⟨g, i * 3, none⟩)) := hs 12 (by kernel_rfl) _ rfl 18 rfl
      have e13 : a_.tmps[13]? = some (.agg (IS y)) := hs 7 (by kernel_rfl) _ rfl 13 rfl
      refine ⟨_, rfl, fun KR hKR => ?_⟩
      rw [if_pos (show Region.wanted _ _ = true from rfl)]
      clear hs ho
      (obtain rfl := hn1 (.inl rfl); obtain rfl : t2_ = false := Bool.eq_false_iff.2 (fun hq => absurd (hy2 (by kernel_rfl) hq) (by decide)); refine wp_store_mid 40 (.tmp 18) (.tmp 13) rfl g (i * 3) (IS y) (by simp [Act.eval, e18]) (by simp [Act.eval, e13]) (row_there hS.1 hi) (info40 y) (by kernel_rfl) ?_; exact hKR _ (SwS.one hS hn hi))
    · obtain rfl : (.pointer (some ⟨g, k * 3, none⟩) : Value) = v_ := Option.some.inj (show some (.pointer (some ⟨g, k * 3, none⟩) : Value) = some v_ from hi)
      clear hi hl
      have e8 : a_.tmps[8]? = some (.slice (some ⟨g, 0, none⟩) n cap) := hs 2 (by kernel_rfl) _ rfl 8 rfl
      have e9 : a_.tmps[9]? = some (.int .i64 k) := hs 3 (by kernel_rfl) _ rfl 9 rfl
      refine ⟨_, rfl, fun KR hKR => ?_⟩
      rw [if_pos (show Region.wanted _ _ = true from rfl)]
      clear hs ho
      (go_simp; exact hKR _ (by simpa using hS))
    · obtain rfl : (undef : Value) = v_ := Option.some.inj (show some (undef : Value) = some v_ from hi)
      clear hi hl
      have e19 : a_.tmps[19]? = some (.pointer (some ⟨g, k * 3, none⟩)) := hs 14 (by kernel_rfl) _ rfl 19 rfl
      have e17 : a_.tmps[17]? = some (.agg (IS x)) := hs 11 (by kernel_rfl) _ rfl 17 rfl
      refine ⟨_, rfl, fun KR hKR => ?_⟩
      rw [if_pos (show Region.wanted _ _ = true from rfl)]
      clear hs ho
      (obtain rfl := hn2 (.inl rfl); obtain rfl := hy1 (by kernel_rfl); refine wp_store_mid 40 (.tmp 19) (.tmp 17) rfl g (k * 3) (IS x) (by simp [Act.eval, e19]) (by simp [Act.eval, e17]) (row_there hS.1 hk) (info40 x) (by kernel_rfl) ?_; exact hKR _ (SwS.two hS hn hk))
  · intro vals_ W hv hS
    have v0 : vals_ 0 = .slice (some ⟨g, 0, none⟩) n cap := hv 0 _ rfl
    have v1 : vals_ 1 = .int .i64 i := hv 1 _ rfl
    have v2 : vals_ 2 = .slice (some ⟨g, 0, none⟩) n cap := hv 2 _ rfl
    have v3 : vals_ 3 = .int .i64 k := hv 3 _ rfl
    have v4 : vals_ 4 = .slice (some ⟨g, 0, none⟩) n cap := hv 4 _ rfl
    have v5 : vals_ 5 = .int .i64 k := hv 5 _ rfl
    have v6 : vals_ 6 = .pointer (some ⟨g, k * 3, none⟩) := hv 6 _ rfl
    have v7 : vals_ 7 = .agg (IS y) := hv 7 _ rfl
    have v8 : vals_ 8 = .slice (some ⟨g, 0, none⟩) n cap := hv 8 _ rfl
    have v9 : vals_ 9 = .int .i64 i := hv 9 _ rfl
    have v10 : vals_ 10 = .pointer (some ⟨g, i * 3, none⟩) := hv 10 _ rfl
    have v11 : vals_ 11 = .agg (IS x) := hv 11 _ rfl
    have v12 : vals_ 12 = .pointer (some ⟨g, i * 3, none⟩) := hv 12 _ rfl
    have v13 : vals_ 13 = undef := hv 13 _ rfl
    have v14 : vals_ 14 = .pointer (some ⟨g, k * 3, none⟩) := hv 14 _ rfl
    have v15 : vals_ 15 = undef := hv 15 _ rfl
    simp only [List.length_cons, List.length_nil, Nat.zero_add, Nat.reduceAdd, List.size_toArray, slots, if_true, dstOf, List.getElem?_toArray, List.getElem?_cons_zero, List.getElem?_cons_succ, Option.bind_some, Act.put, List.setIfInBounds_toArray, List.set_cons_zero, List.set_cons_succ, v0, v1, v2, v3, v4, v5, v6, v7, v8, v9, v10, v11, v12, v13, v14, v15]
    clear hv v0 v1 v2 v3 v4 v5 v6 v7 v8 v9 v10 v11 v12 v13 v14 v15
    change wpAny _ _ _ _ 0 _ _ _
    refine wpAny_done (by kernel_rfl) ?_ _
    go_end0
    exact ⟨rfl, hS.1, hS.2⟩
end Go.Proofs.Ytndfoohdoadkfaa
