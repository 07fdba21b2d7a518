/- BinarySearchFunc over stamps, and Place. -/
import Derived.Test.YtndfoohdoadkfaaQU
set_option linter.unusedVariables false
set_option linter.unusedSimpArgs false
namespace Go.Proofs.Ytndfoohdoadkfaa
open Go.RowKit
theorem cmp_lt (a b : St) : cmpS (toI a) (toI b) < 0 ↔ (a.t < b.t ∨ (a.t = b.t ∧ a.r < b.r)) := by
  unfold cmpS toI
  by_cases h1 : a.t = b.t <;> by_cases h2 : a.r = b.r <;> by_cases h3 : a.t < b.t <;> by_cases h4 : a.r < b.r <;> simp [h1, h2, h3, h4] <;> omega
theorem cmp_eq (a b : St) : cmpS (toI a) (toI b) = 0 ↔ a = b := by
  obtain ⟨t, r⟩ := a
  obtain ⟨t', r'⟩ := b
  unfold cmpS toI
  simp only [St.mk.injEq]
  by_cases h1 : t = t' <;> by_cases h2 : r = r' <;> by_cases h3 : t < t' <;> by_cases h4 : r < r' <;> simp [h1, h2, h3, h4] <;> omega
theorem rise_lt {l : List St} (h : Rise l) : ∀ (d k : Nat) (a b : St), l[k]? = some a → l[k + d + 1]? = some b → cmpS (toI a) (toI b) < 0
  | 0, k, a, b, ha, hb => h k a b ha hb
  | d + 1, k, a, b, ha, hb => by
    obtain ⟨m, hm⟩ : ∃ m, l[k + d + 1]? = some m := ⟨_, List.getElem?_eq_getElem (by have := (List.getElem?_eq_some_iff.1 hb).1; omega)⟩
    have h1 := rise_lt h d k a m ha hm
    have h2 := h (k + d + 1) m b hm hb
    rw [cmp_lt] at *
    omega
theorem rise_lt' {l : List St} (h : Rise l) {k m : Nat} (hk : k < m) {a b : St} (ha : l[k]? = some a) (hb : l[m]? = some b) : cmpS (toI a) (toI b) < 0 :=
  rise_lt h (m - k - 1) k a b ha (by rw [show k + (m - k - 1) + 1 = m by omega]; exact hb)
def plc (l : List St) (s : St) : Nat := (l.takeWhile fun x => decide (cmpS (toI x) (toI s) < 0)).length
theorem plc_is : ∀ (l : List St) (s : St) (i : Nat), i ≤ l.length → (∀ k a, k < i → l[k]? = some a → cmpS (toI a) (toI s) < 0) → (∀ a, l[i]? = some a → ¬ cmpS (toI a) (toI s) < 0) → plc l s = i
  | [], s, i, h, _, _ => by simp at h; simp [plc, h]
  | x :: l, s, 0, _, _, h2 => by
    have := h2 x rfl
    simp [plc, List.takeWhile_cons, this]
  | x :: l, s, i + 1, h, h1, h2 => by
    have hx := h1 0 x (by omega) rfl
    have ih := plc_is l s i (by simpa using h) (fun k a hk ha => h1 (k + 1) a (by omega) (by simpa using ha)) (fun a ha => h2 a (by simpa using ha))
    unfold plc at *
    rw [List.takeWhile_cons, if_pos (by simpa using hx), List.length_cons, ih]
def fnd (l : List St) (s : St) : Bool := decide (l[plc l s]? = some s)
set_option maxRecDepth 10000 in
set_option maxHeartbeats 4000000 in
theorem search_any (v : Value) (l : List St) (s : St) (w : World) (h : Row2 w v l) (hl : l.length ≤ 1000000) (hr : Rise l) :
    Calls Try.prog 38 #[v, .agg (SS s), .func (.func 36) #[] #[]] w fun e w' => e = .returned (.tuple #[.int .i64 (plc l s), .bool (fnd l s)]) ∧ Below w.heap.size w w' := by
  obtain ⟨A, c, rfl, k1, r1⟩ := h
  obtain ⟨N, hN⟩ : ∃ N, N = l.length := ⟨_, rfl⟩
  have HN := Lib.hid hN
  have R1 := Lib.hid r1
  have HR := Lib.hid hr
  rw [← hN] at k1 hl ⊢
  clear hN r1 hr
  go_enter Try.func38, Try.ntmps38
  go_wp2
  obtain ⟨W0, hW0⟩ : ∃ W0, W0 = w.alloc (.cells (SS s) 34) := ⟨_, rfl⟩
  have HW := Lib.hid (show Below w.heap.size w W0 from by rw [hW0]; exact below_alloc (Below.refl _ _) _)
  have HC := Lib.hid (show W0.rangeAt w.heap.size 0 (SS s).toList from by rw [hW0]; exact range_of_heap (heap_alloc_new w _) _ _ (fun j v hv => by simpa using hv))
  rw [← hW0]
  clear hW0
  go_loopw [9, 10] (fun t u wr => ∃ (i j : Nat), t = .int .i64 i ∧ u = .int .i64 j ∧ i ≤ j ∧ j ≤ N ∧ Hid (∀ k a, k < i → l[k]? = some a → cmpS (toI a) (toI s) < 0) ∧ Hid (∀ k a, j ≤ k → l[k]? = some a → 0 ≤ cmpS (toI a) (toI s)) ∧ Hid (Below W0.heap.size W0 wr)) (fun t u _ => (intOf u).toNat - (intOf t).toNat)
  case atStart => exact ⟨0, N, rfl, rfl, by omega, by omega, Lib.hid (fun k a hk => absurd hk (by omega)), Lib.hid (fun k a hk ha => absurd (List.getElem?_eq_some_iff.1 ha).1 (by rw [← HN.out]; omega)), Lib.hid (Below.refl _ _)⟩
  case round =>
    obtain ⟨i, j, rfl, rfl, hij, hj, HI, HJ, HB⟩ := hrel
    have HS := Lib.hid (range_below HB.out HC.out)
    by_cases q : i < j
    · obtain ⟨m, hm⟩ : ∃ m : Nat, ((i : Int) + (j : Int)) / 2 = (m : Int) := ⟨(i + j) / 2, by omega⟩
      have hm1 : i ≤ m := by omega
      have hm2 : m < j := by omega
      have HMM := Lib.hid hm
      clear hm
      obtain ⟨g, o, rfl, r1⟩ := R1.out (by rw [← HN.out]; omega)
      obtain ⟨a, ha⟩ : ∃ a, l[m]? = some a := ⟨_, List.getElem?_eq_getElem (by rw [← HN.out]; omega)⟩
      have HX := Lib.hid (range_below HB.out (range_below HW.out (r1 m a ha)))
      have HXJ := Lib.hid ha
      obtain ⟨z, hz⟩ : ∃ z, cmpS (toI a) (toI s) = z := ⟨_, rfl⟩
      have HZ := Lib.hid hz
      clear r1 ha hz
      go_wp2
      rw [HMM.out]
      by_cases hz : z < 0
      · have hz2 : decide (z < 0) = true := decide_eq_true hz
        have hlt : (m : Int) < (N : Int) := by omega
        refine drawn_st (w := wr) ([Lf.v (.func (.func 36) #[] #[]), Lf.v (.slice (some ⟨g, o, none⟩) N c), Lf.v (.int .i64 (m : Int)), Lf.v (.pointer (some ⟨g, o + m * 2, none⟩)), Lf.v (.agg (SS a)), Lf.v (.agg (SS s)), Lf.v (.int .i64 z), Lf.v (.bool true)] : List Lf) (by kernel_rfl) (by kernel_rfl) (by kernel_rfl) (by kernel_rfl) ?_ ?_ ?_ ?_
        · intro i_ v_ hi a_ W hs ho hB
          have hl := (List.getElem?_eq_some_iff.1 hi).1
          rcases (show i_ = 0 ∨ i_ = 1 ∨ i_ = 2 ∨ i_ = 3 ∨ i_ = 4 ∨ i_ = 5 ∨ i_ = 6 ∨ i_ = 7 by simp at hl; omega) with rfl | rfl | rfl | rfl | rfl | rfl | rfl | rfl
          · obtain rfl : (.func (.func 36) #[] #[]) = v_ := Lf.v.inj (Option.some.inj (show some (Lf.v (.func (.func 36) #[] #[])) = some (Lf.v v_) from hi))
            clear hi hl
            have e2 : a_.tmps[2]? = some (.func (.func 36) #[] #[]) := (ho 2 (by kernel_rfl)).trans rfl
            refine ⟨_, rfl, fun KR hKR => ?_⟩
            rw [if_pos (show Region.wanted _ _ = true from rfl)]
            clear hs ho
            go_simp
            exact hKR _ (Below.refl _ _)
          · obtain rfl : (.slice (some ⟨g, o, none⟩) N c) = v_ := Lf.v.inj (Option.some.inj (show some (Lf.v (.slice (some ⟨g, o, none⟩) N c)) = some (Lf.v v_) from hi))
            clear hi hl
            have e0 : a_.tmps[0]? = some (.slice (some ⟨g, o, none⟩) N c) := (ho 0 (by kernel_rfl)).trans rfl
            refine ⟨_, rfl, fun KR hKR => ?_⟩
            rw [if_pos (show Region.wanted _ _ = true from rfl)]
            clear hs ho
            go_simp
            exact hKR _ (Below.refl _ _)
          · obtain rfl : (.int .i64 (m : Int)) = v_ := Lf.v.inj (Option.some.inj (show some (Lf.v (.int .i64 (m : Int))) = some (Lf.v v_) from hi))
            clear hi hl
            have e11 : a_.tmps[11]? = some (.int .i64 (m : Int)) := (ho 11 (by kernel_rfl)).trans rfl
            refine ⟨_, rfl, fun KR hKR => ?_⟩
            rw [if_pos (show Region.wanted _ _ = true from rfl)]
            clear hs ho
            go_simp
            exact hKR _ (Below.refl _ _)
          · obtain rfl : (.pointer (some ⟨g, o + m * 2, none⟩)) = v_ := Lf.v.inj (Option.some.inj (show some (Lf.v (.pointer (some ⟨g, o + m * 2, none⟩))) = some (Lf.v v_) from hi))
            clear hi hl
            have e25 : a_.tmps[25]? = some (.slice (some ⟨g, o, none⟩) N c) := hs 1 (by kernel_rfl) _ rfl 25 rfl
            have e26 : a_.tmps[26]? = some (.int .i64 (m : Int)) := hs 2 (by kernel_rfl) _ rfl 26 rfl
            refine ⟨_, rfl, fun KR hKR => ?_⟩
            rw [if_pos (show Region.wanted _ _ = true from rfl)]
            clear hs ho
            go_simp
            exact hKR _ (Below.refl _ _)
          · obtain rfl : (.agg (SS a)) = v_ := Lf.v.inj (Option.some.inj (show some (Lf.v (.agg (SS a))) = some (Lf.v v_) from hi))
            clear hi hl
            have e27 : a_.tmps[27]? = some (.pointer (some ⟨g, o + m * 2, none⟩)) := hs 3 (by kernel_rfl) _ rfl 27 rfl
            refine ⟨_, rfl, fun KR hKR => ?_⟩
            rw [if_pos (show Region.wanted _ _ = true from rfl)]
            clear hs ho
            (refine wp_load_mid 34 (.tmp 27) rfl g (o + m * 2) (by simp [Act.eval, e27]) (SS a).toList _ (range_below hB HX.out) Try.underlying34 rfl (info34 _) ?_; exact hKR _ (Below.refl _ _))
          · obtain rfl : (.agg (SS s)) = v_ := Lf.v.inj (Option.some.inj (show some (Lf.v (.agg (SS s))) = some (Lf.v v_) from hi))
            clear hi hl
            have e4 : a_.tmps[4]? = some (.pointer (some ⟨w.heap.size, 0, none⟩)) := (ho 4 (by kernel_rfl)).trans rfl
            refine ⟨_, rfl, fun KR hKR => ?_⟩
            rw [if_pos (show Region.wanted _ _ = true from rfl)]
            clear hs ho
            (refine wp_load_mid 34 (.tmp 4) rfl w.heap.size (0) (by simp [Act.eval, e4]) (SS s).toList _ (range_below hB HS.out) Try.underlying34 rfl (info34 _) ?_; exact hKR _ (Below.refl _ _))
          · obtain rfl : (.int .i64 z) = v_ := Lf.v.inj (Option.some.inj (show some (Lf.v (.int .i64 z)) = some (Lf.v v_) from hi))
            clear hi hl
            have e24 : a_.tmps[24]? = some (.func (.func 36) #[] #[]) := hs 0 (by kernel_rfl) _ rfl 24 rfl
            have e28 : a_.tmps[28]? = some (.agg (SS a)) := hs 4 (by kernel_rfl) _ rfl 28 rfl
            have e29 : a_.tmps[29]? = some (.agg (SS s)) := hs 5 (by kernel_rfl) _ rfl 29 rfl
            refine ⟨_, rfl, fun KR hKR => ?_⟩
            rw [if_pos (show Region.wanted _ _ = true from rfl)]
            clear hs ho
            (go_simp; go_at_call 36; refine (cmp_any (toI a) (toI s) _).mono ?_; rintro e w1 ⟨rfl, hb⟩; rw [HZ.out]; exact hKR _ hb)
          · obtain rfl : (.bool true) = v_ := Lf.v.inj (Option.some.inj (show some (Lf.v (.bool true)) = some (Lf.v v_) from hi))
            clear hi hl
            have e30 : a_.tmps[30]? = some (.int .i64 z) := hs 6 (by kernel_rfl) _ rfl 30 rfl
            refine ⟨_, rfl, fun KR hKR => ?_⟩
            rw [if_pos (show Region.wanted _ _ = true from rfl)]
            clear hs ho
            go_simp
            exact hKR _ (Below.refl _ _)
        · intro i_ T_ Z_ S_ k_ hi a_ W
          have hl := (List.getElem?_eq_some_iff.1 hi).1
          rcases (show i_ = 0 ∨ i_ = 1 ∨ i_ = 2 ∨ i_ = 3 ∨ i_ = 4 ∨ i_ = 5 ∨ i_ = 6 ∨ i_ = 7 by simp at hl; omega) with rfl | rfl | rfl | rfl | rfl | rfl | rfl | rfl
          · exact Lf.noConfusion (Option.some.inj (show some (Lf.v (.func (.func 36) #[] #[])) = some (Lf.nw T_ Z_ S_ k_) from hi))
          · exact Lf.noConfusion (Option.some.inj (show some (Lf.v (.slice (some ⟨g, o, none⟩) N c)) = some (Lf.nw T_ Z_ S_ k_) from hi))
          · exact Lf.noConfusion (Option.some.inj (show some (Lf.v (.int .i64 (m : Int))) = some (Lf.nw T_ Z_ S_ k_) from hi))
          · exact Lf.noConfusion (Option.some.inj (show some (Lf.v (.pointer (some ⟨g, o + m * 2, none⟩))) = some (Lf.nw T_ Z_ S_ k_) from hi))
          · exact Lf.noConfusion (Option.some.inj (show some (Lf.v (.agg (SS a))) = some (Lf.nw T_ Z_ S_ k_) from hi))
          · exact Lf.noConfusion (Option.some.inj (show some (Lf.v (.agg (SS s))) = some (Lf.nw T_ Z_ S_ k_) from hi))
          · exact Lf.noConfusion (Option.some.inj (show some (Lf.v (.int .i64 z)) = some (Lf.nw T_ Z_ S_ k_) from hi))
          · exact Lf.noConfusion (Option.some.inj (show some (Lf.v (.bool true)) = some (Lf.nw T_ Z_ S_ k_) from hi))
        · intro i_ m_ T_ Z_ S_ hi hm_ a_ W g_ hp_ hg hs
          have hl := (List.getElem?_eq_some_iff.1 hi).1
          rcases (show i_ = 0 ∨ i_ = 1 ∨ i_ = 2 ∨ i_ = 3 ∨ i_ = 4 ∨ i_ = 5 ∨ i_ = 6 ∨ i_ = 7 by simp at hl; omega) with rfl | rfl | rfl | rfl | rfl | rfl | rfl | rfl
          · exact Lf.noConfusion (Option.some.inj (show some (Lf.v (.func (.func 36) #[] #[])) = some (Lf.st m_) from hi))
          · exact Lf.noConfusion (Option.some.inj (show some (Lf.v (.slice (some ⟨g, o, none⟩) N c)) = some (Lf.st m_) from hi))
          · exact Lf.noConfusion (Option.some.inj (show some (Lf.v (.int .i64 (m : Int))) = some (Lf.st m_) from hi))
          · exact Lf.noConfusion (Option.some.inj (show some (Lf.v (.pointer (some ⟨g, o + m * 2, none⟩))) = some (Lf.st m_) from hi))
          · exact Lf.noConfusion (Option.some.inj (show some (Lf.v (.agg (SS a))) = some (Lf.st m_) from hi))
          · exact Lf.noConfusion (Option.some.inj (show some (Lf.v (.agg (SS s))) = some (Lf.st m_) from hi))
          · exact Lf.noConfusion (Option.some.inj (show some (Lf.v (.int .i64 z)) = some (Lf.st m_) from hi))
          · exact Lf.noConfusion (Option.some.inj (show some (Lf.v (.bool true)) = some (Lf.st m_) from hi))
        · intro b_ vals_ W hall hI
          have hB := hI.bel
          have v0 : vals_ 0 = .func (.func 36) #[] #[] := hI.has 0 (Nat.le_of_ble_eq_true rfl) (hall 0 (Nat.le_of_ble_eq_true rfl))
          have v1 : vals_ 1 = .slice (some ⟨g, o, none⟩) N c := hI.has 1 (Nat.le_of_ble_eq_true rfl) (hall 1 (Nat.le_of_ble_eq_true rfl))
          have v2 : vals_ 2 = .int .i64 (m : Int) := hI.has 2 (Nat.le_of_ble_eq_true rfl) (hall 2 (Nat.le_of_ble_eq_true rfl))
          have v3 : vals_ 3 = .pointer (some ⟨g, o + m * 2, none⟩) := hI.has 3 (Nat.le_of_ble_eq_true rfl) (hall 3 (Nat.le_of_ble_eq_true rfl))
          have v4 : vals_ 4 = .agg (SS a) := hI.has 4 (Nat.le_of_ble_eq_true rfl) (hall 4 (Nat.le_of_ble_eq_true rfl))
          have v5 : vals_ 5 = .agg (SS s) := hI.has 5 (Nat.le_of_ble_eq_true rfl) (hall 5 (Nat.le_of_ble_eq_true rfl))
          have v6 : vals_ 6 = .int .i64 z := hI.has 6 (Nat.le_of_ble_eq_true rfl) (hall 6 (Nat.le_of_ble_eq_true rfl))
          have v7 : vals_ 7 = .bool true := hI.has 7 (Nat.le_of_ble_eq_true rfl) (hall 7 (Nat.le_of_ble_eq_true rfl))
          simp only [List.length_cons, List.length_nil, Nat.zero_add, Nat.reduceAdd, List.size_toArray, slots, if_true, dstOf, List.getElem?_toArray, List.getElem?_cons_zero, List.getElem?_cons_succ, Option.bind_some, Act.put, List.setIfInBounds_toArray, List.set_cons_zero, List.set_cons_succ, v0, v1, v2, v3, v4, v5, v6, v7]
          clear hI hall v0 v1 v2 v3 v4 v5 v6 v7
          change wpAny _ _ _ _ 0 _ _ _
          refine wpAny_done (by kernel_rfl) ?_ _
          have HB2 := Lib.hid (bel HB.out hB)
          clear hB
          go_wp2
          go_roundw
          case rel =>
            refine ⟨m + 1, j, by go_num, rfl, by omega, hj, Lib.hid ?_, HJ, HB2⟩
            intro k a' hk h1
            by_cases qq : k = m
            · subst qq
              obtain rfl := Option.some.inj (HXJ.out.symm.trans h1)
              rw [HZ.out]
              exact hz
            · have h2 := rise_lt' HR.out (show k < m by omega) h1 HXJ.out
              have h3 := HZ.out
              rw [← h3] at hz
              rw [cmp_lt] at *
              omega
          case measure =>
            simp [intOf]
            omega
      · have hz2 : decide (z < 0) = false := decide_eq_false hz
        have hlt : (m : Int) < (N : Int) := by omega
        refine drawn_st (w := wr) ([Lf.v (.func (.func 36) #[] #[]), Lf.v (.slice (some ⟨g, o, none⟩) N c), Lf.v (.int .i64 (m : Int)), Lf.v (.pointer (some ⟨g, o + m * 2, none⟩)), Lf.v (.agg (SS a)), Lf.v (.agg (SS s)), Lf.v (.int .i64 z), Lf.v (.bool false)] : List Lf) (by kernel_rfl) (by kernel_rfl) (by kernel_rfl) (by kernel_rfl) ?_ ?_ ?_ ?_
        · intro i_ v_ hi a_ W hs ho hB
          have hl := (List.getElem?_eq_some_iff.1 hi).1
          rcases (show i_ = 0 ∨ i_ = 1 ∨ i_ = 2 ∨ i_ = 3 ∨ i_ = 4 ∨ i_ = 5 ∨ i_ = 6 ∨ i_ = 7 by simp at hl; omega) with rfl | rfl | rfl | rfl | rfl | rfl | rfl | rfl
          · obtain rfl : (.func (.func 36) #[] #[]) = v_ := Lf.v.inj (Option.some.inj (show some (Lf.v (.func (.func 36) #[] #[])) = some (Lf.v v_) from hi))
            clear hi hl
            have e2 : a_.tmps[2]? = some (.func (.func 36) #[] #[]) := (ho 2 (by kernel_rfl)).trans rfl
            refine ⟨_, rfl, fun KR hKR => ?_⟩
            rw [if_pos (show Region.wanted _ _ = true from rfl)]
            clear hs ho
            go_simp
            exact hKR _ (Below.refl _ _)
          · obtain rfl : (.slice (some ⟨g, o, none⟩) N c) = v_ := Lf.v.inj (Option.some.inj (show some (Lf.v (.slice (some ⟨g, o, none⟩) N c)) = some (Lf.v v_) from hi))
            clear hi hl
            have e0 : a_.tmps[0]? = some (.slice (some ⟨g, o, none⟩) N c) := (ho 0 (by kernel_rfl)).trans rfl
            refine ⟨_, rfl, fun KR hKR => ?_⟩
            rw [if_pos (show Region.wanted _ _ = true from rfl)]
            clear hs ho
            go_simp
            exact hKR _ (Below.refl _ _)
          · obtain rfl : (.int .i64 (m : Int)) = v_ := Lf.v.inj (Option.some.inj (show some (Lf.v (.int .i64 (m : Int))) = some (Lf.v v_) from hi))
            clear hi hl
            have e11 : a_.tmps[11]? = some (.int .i64 (m : Int)) := (ho 11 (by kernel_rfl)).trans rfl
            refine ⟨_, rfl, fun KR hKR => ?_⟩
            rw [if_pos (show Region.wanted _ _ = true from rfl)]
            clear hs ho
            go_simp
            exact hKR _ (Below.refl _ _)
          · obtain rfl : (.pointer (some ⟨g, o + m * 2, none⟩)) = v_ := Lf.v.inj (Option.some.inj (show some (Lf.v (.pointer (some ⟨g, o + m * 2, none⟩))) = some (Lf.v v_) from hi))
            clear hi hl
            have e25 : a_.tmps[25]? = some (.slice (some ⟨g, o, none⟩) N c) := hs 1 (by kernel_rfl) _ rfl 25 rfl
            have e26 : a_.tmps[26]? = some (.int .i64 (m : Int)) := hs 2 (by kernel_rfl) _ rfl 26 rfl
            refine ⟨_, rfl, fun KR hKR => ?_⟩
            rw [if_pos (show Region.wanted _ _ = true from rfl)]
            clear hs ho
            go_simp
            exact hKR _ (Below.refl _ _)
          · obtain rfl : (.agg (SS a)) = v_ := Lf.v.inj (Option.some.inj (show some (Lf.v (.agg (SS a))) = some (Lf.v v_) from hi))
            clear hi hl
            have e27 : a_.tmps[27]? = some (.pointer (some ⟨g, o + m * 2, none⟩)) := hs 3 (by kernel_rfl) _ rfl 27 rfl
            refine ⟨_, rfl, fun KR hKR => ?_⟩
            rw [if_pos (show Region.wanted _ _ = true from rfl)]
            clear hs ho
            (refine wp_load_mid 34 (.tmp 27) rfl g (o + m * 2) (by simp [Act.eval, e27]) (SS a).toList _ (range_below hB HX.out) Try.underlying34 rfl (info34 _) ?_; exact hKR _ (Below.refl _ _))
          · obtain rfl : (.agg (SS s)) = v_ := Lf.v.inj (Option.some.inj (show some (Lf.v (.agg (SS s))) = some (Lf.v v_) from hi))
            clear hi hl
            have e4 : a_.tmps[4]? = some (.pointer (some ⟨w.heap.size, 0, none⟩)) := (ho 4 (by kernel_rfl)).trans rfl
            refine ⟨_, rfl, fun KR hKR => ?_⟩
            rw [if_pos (show Region.wanted _ _ = true from rfl)]
            clear hs ho
            (refine wp_load_mid 34 (.tmp 4) rfl w.heap.size (0) (by simp [Act.eval, e4]) (SS s).toList _ (range_below hB HS.out) Try.underlying34 rfl (info34 _) ?_; exact hKR _ (Below.refl _ _))
          · obtain rfl : (.int .i64 z) = v_ := Lf.v.inj (Option.some.inj (show some (Lf.v (.int .i64 z)) = some (Lf.v v_) from hi))
            clear hi hl
            have e24 : a_.tmps[24]? = some (.func (.func 36) #[] #[]) := hs 0 (by kernel_rfl) _ rfl 24 rfl
            have e28 : a_.tmps[28]? = some (.agg (SS a)) := hs 4 (by kernel_rfl) _ rfl 28 rfl
            have e29 : a_.tmps[29]? = some (.agg (SS s)) := hs 5 (by kernel_rfl) _ rfl 29 rfl
            refine ⟨_, rfl, fun KR hKR => ?_⟩
            rw [if_pos (show Region.wanted _ _ = true from rfl)]
            clear hs ho
            (go_simp; go_at_call 36; refine (cmp_any (toI a) (toI s) _).mono ?_; rintro e w1 ⟨rfl, hb⟩; rw [HZ.out]; exact hKR _ hb)
          · obtain rfl : (.bool false) = v_ := Lf.v.inj (Option.some.inj (show some (Lf.v (.bool false)) = some (Lf.v v_) from hi))
            clear hi hl
            have e30 : a_.tmps[30]? = some (.int .i64 z) := hs 6 (by kernel_rfl) _ rfl 30 rfl
            refine ⟨_, rfl, fun KR hKR => ?_⟩
            rw [if_pos (show Region.wanted _ _ = true from rfl)]
            clear hs ho
            go_simp
            exact hKR _ (Below.refl _ _)
        · intro i_ T_ Z_ S_ k_ hi a_ W
          have hl := (List.getElem?_eq_some_iff.1 hi).1
          rcases (show i_ = 0 ∨ i_ = 1 ∨ i_ = 2 ∨ i_ = 3 ∨ i_ = 4 ∨ i_ = 5 ∨ i_ = 6 ∨ i_ = 7 by simp at hl; omega) with rfl | rfl | rfl | rfl | rfl | rfl | rfl | rfl
          · exact Lf.noConfusion (Option.some.inj (show some (Lf.v (.func (.func 36) #[] #[])) = some (Lf.nw T_ Z_ S_ k_) from hi))
          · exact Lf.noConfusion (Option.some.inj (show some (Lf.v (.slice (some ⟨g, o, none⟩) N c)) = some (Lf.nw T_ Z_ S_ k_) from hi))
          · exact Lf.noConfusion (Option.some.inj (show some (Lf.v (.int .i64 (m : Int))) = some (Lf.nw T_ Z_ S_ k_) from hi))
          · exact Lf.noConfusion (Option.some.inj (show some (Lf.v (.pointer (some ⟨g, o + m * 2, none⟩))) = some (Lf.nw T_ Z_ S_ k_) from hi))
          · exact Lf.noConfusion (Option.some.inj (show some (Lf.v (.agg (SS a))) = some (Lf.nw T_ Z_ S_ k_) from hi))
          · exact Lf.noConfusion (Option.some.inj (show some (Lf.v (.agg (SS s))) = some (Lf.nw T_ Z_ S_ k_) from hi))
          · exact Lf.noConfusion (Option.some.inj (show some (Lf.v (.int .i64 z)) = some (Lf.nw T_ Z_ S_ k_) from hi))
          · exact Lf.noConfusion (Option.some.inj (show some (Lf.v (.bool false)) = some (Lf.nw T_ Z_ S_ k_) from hi))
        · intro i_ m_ T_ Z_ S_ hi hm_ a_ W g_ hp_ hg hs
          have hl := (List.getElem?_eq_some_iff.1 hi).1
          rcases (show i_ = 0 ∨ i_ = 1 ∨ i_ = 2 ∨ i_ = 3 ∨ i_ = 4 ∨ i_ = 5 ∨ i_ = 6 ∨ i_ = 7 by simp at hl; omega) with rfl | rfl | rfl | rfl | rfl | rfl | rfl | rfl
          · exact Lf.noConfusion (Option.some.inj (show some (Lf.v (.func (.func 36) #[] #[])) = some (Lf.st m_) from hi))
          · exact Lf.noConfusion (Option.some.inj (show some (Lf.v (.slice (some ⟨g, o, none⟩) N c)) = some (Lf.st m_) from hi))
          · exact Lf.noConfusion (Option.some.inj (show some (Lf.v (.int .i64 (m : Int))) = some (Lf.st m_) from hi))
          · exact Lf.noConfusion (Option.some.inj (show some (Lf.v (.pointer (some ⟨g, o + m * 2, none⟩))) = some (Lf.st m_) from hi))
          · exact Lf.noConfusion (Option.some.inj (show some (Lf.v (.agg (SS a))) = some (Lf.st m_) from hi))
          · exact Lf.noConfusion (Option.some.inj (show some (Lf.v (.agg (SS s))) = some (Lf.st m_) from hi))
          · exact Lf.noConfusion (Option.some.inj (show some (Lf.v (.int .i64 z)) = some (Lf.st m_) from hi))
          · exact Lf.noConfusion (Option.some.inj (show some (Lf.v (.bool false)) = some (Lf.st m_) from hi))
        · intro b_ vals_ W hall hI
          have hB := hI.bel
          have v0 : vals_ 0 = .func (.func 36) #[] #[] := hI.has 0 (Nat.le_of_ble_eq_true rfl) (hall 0 (Nat.le_of_ble_eq_true rfl))
          have v1 : vals_ 1 = .slice (some ⟨g, o, none⟩) N c := hI.has 1 (Nat.le_of_ble_eq_true rfl) (hall 1 (Nat.le_of_ble_eq_true rfl))
          have v2 : vals_ 2 = .int .i64 (m : Int) := hI.has 2 (Nat.le_of_ble_eq_true rfl) (hall 2 (Nat.le_of_ble_eq_true rfl))
          have v3 : vals_ 3 = .pointer (some ⟨g, o + m * 2, none⟩) := hI.has 3 (Nat.le_of_ble_eq_true rfl) (hall 3 (Nat.le_of_ble_eq_true rfl))
          have v4 : vals_ 4 = .agg (SS a) := hI.has 4 (Nat.le_of_ble_eq_true rfl) (hall 4 (Nat.le_of_ble_eq_true rfl))
          have v5 : vals_ 5 = .agg (SS s) := hI.has 5 (Nat.le_of_ble_eq_true rfl) (hall 5 (Nat.le_of_ble_eq_true rfl))
          have v6 : vals_ 6 = .int .i64 z := hI.has 6 (Nat.le_of_ble_eq_true rfl) (hall 6 (Nat.le_of_ble_eq_true rfl))
          have v7 : vals_ 7 = .bool false := hI.has 7 (Nat.le_of_ble_eq_true rfl) (hall 7 (Nat.le_of_ble_eq_true rfl))
          simp only [List.length_cons, List.length_nil, Nat.zero_add, Nat.reduceAdd, List.size_toArray, slots, if_true, dstOf, List.getElem?_toArray, List.getElem?_cons_zero, List.getElem?_cons_succ, Option.bind_some, Act.put, List.setIfInBounds_toArray, List.set_cons_zero, List.set_cons_succ, v0, v1, v2, v3, v4, v5, v6, v7]
          clear hI hall v0 v1 v2 v3 v4 v5 v6 v7
          change wpAny _ _ _ _ 0 _ _ _
          refine wpAny_done (by kernel_rfl) ?_ _
          have HB2 := Lib.hid (bel HB.out hB)
          clear hB
          go_wp2
          go_roundw
          case rel =>
            refine ⟨i, m, rfl, rfl, hm1, by omega, HI, Lib.hid ?_, HB2⟩
            intro k a' hk h1
            have h3 := HZ.out
            by_cases qq : k = m
            · subst qq
              obtain rfl := Option.some.inj (HXJ.out.symm.trans h1)
              rw [h3]
              omega
            · have h2 := rise_lt' HR.out (show m < k by omega) HXJ.out h1
              rw [← h3] at hz
              refine Int.not_lt.1 ?_
              rw [cmp_lt] at *
              omega
          case measure =>
            simp [intOf]
            omega
    · obtain rfl : i = j := by omega
      go_wp2
      by_cases q2 : i < N
      · obtain ⟨g, o, rfl, r1⟩ := R1.out (by rw [← HN.out]; omega)
        obtain ⟨a, ha⟩ : ∃ a, l[i]? = some a := ⟨_, List.getElem?_eq_getElem (by rw [← HN.out]; omega)⟩
        have HX := Lib.hid (range_below HB.out (range_below HW.out (r1 i a ha)))
        have HPL := Lib.hid (plc_is l s i (by rw [← HN.out]; omega) HI.out (fun a ha => Int.not_lt.2 (HJ.out i a (Nat.le_refl _) ha)))
        have HXJ := Lib.hid ha
        obtain ⟨z, hz⟩ : ∃ z, cmpS (toI a) (toI s) = z := ⟨_, rfl⟩
        have HZ := Lib.hid hz
        have hlt : (i : Int) < (N : Int) := by omega
        clear r1 ha hz
        by_cases hz : z = 0
        · have HF := Lib.hid (show fnd l s = true from by unfold fnd; rw [HPL.out, HXJ.out, (cmp_eq a s).1 (by rw [HZ.out]; exact hz)]; simp)
          have hz2 : (z == 0) = true := beq_iff_eq.2 hz
          have HZ0 := Lib.hid hz
          clear hz
          refine drawn_st (w := wr) ([Lf.v (.int .i64 (i : Int)), Lf.v (.int .i64 (i : Int)), Lf.v (.int .i64 (N : Int)), Lf.v (.bool true), Lf.v (.bool true), Lf.v (.func (.func 36) #[] #[]), Lf.v (.slice (some ⟨g, o, none⟩) N c), Lf.v (.int .i64 (i : Int)), Lf.v (.pointer (some ⟨g, o + i * 2, none⟩)), Lf.v (.agg (SS a)), Lf.v (.agg (SS s)), Lf.v (.int .i64 z), Lf.v (.bool true), Lf.v (.bool true), Lf.v (.int .i64 (i : Int)), Lf.v (.bool true)] : List Lf) (by kernel_rfl) (by kernel_rfl) (by kernel_rfl) (by kernel_rfl) ?_ ?_ ?_ ?_
          · intro i_ v_ hi a_ W hs ho hB
            have hl := (List.getElem?_eq_some_iff.1 hi).1
            rcases (show i_ = 0 ∨ i_ = 1 ∨ i_ = 2 ∨ i_ = 3 ∨ i_ = 4 ∨ i_ = 5 ∨ i_ = 6 ∨ i_ = 7 ∨ i_ = 8 ∨ i_ = 9 ∨ i_ = 10 ∨ i_ = 11 ∨ i_ = 12 ∨ i_ = 13 ∨ i_ = 14 ∨ i_ = 15 by simp at hl; omega) with rfl | rfl | rfl | rfl | rfl | rfl | rfl | rfl | rfl | rfl | rfl | rfl | rfl | rfl | rfl | rfl
            · obtain rfl : (.int .i64 (i : Int)) = v_ := Lf.v.inj (Option.some.inj (show some (Lf.v (.int .i64 (i : Int))) = some (Lf.v v_) from hi))
              clear hi hl
              have e9 : a_.tmps[9]? = some (.int .i64 (i : Int)) := (ho 9 (by kernel_rfl)).trans rfl
              refine ⟨_, rfl, fun KR hKR => ?_⟩
              rw [if_pos (show Region.wanted _ _ = true from rfl)]
              clear hs ho
              go_simp
              exact hKR _ (Below.refl _ _)
            · obtain rfl : (.int .i64 (i : Int)) = v_ := Lf.v.inj (Option.some.inj (show some (Lf.v (.int .i64 (i : Int))) = some (Lf.v v_) from hi))
              clear hi hl
              have e9 : a_.tmps[9]? = some (.int .i64 (i : Int)) := (ho 9 (by kernel_rfl)).trans rfl
              refine ⟨_, rfl, fun KR hKR => ?_⟩
              rw [if_pos (show Region.wanted _ _ = true from rfl)]
              clear hs ho
              go_simp
              exact hKR _ (Below.refl _ _)
            · obtain rfl : (.int .i64 (N : Int)) = v_ := Lf.v.inj (Option.some.inj (show some (Lf.v (.int .i64 (N : Int))) = some (Lf.v v_) from hi))
              clear hi hl
              have e8 : a_.tmps[8]? = some (.int .i64 (N : Int)) := (ho 8 (by kernel_rfl)).trans rfl
              refine ⟨_, rfl, fun KR hKR => ?_⟩
              rw [if_pos (show Region.wanted _ _ = true from rfl)]
              clear hs ho
              go_simp
              exact hKR _ (Below.refl _ _)
            · obtain rfl : (.bool true) = v_ := Lf.v.inj (Option.some.inj (show some (Lf.v (.bool true)) = some (Lf.v v_) from hi))
              clear hi hl
              have e36 : a_.tmps[36]? = some (.int .i64 (i : Int)) := hs 1 (by kernel_rfl) _ rfl 36 rfl
              have e37 : a_.tmps[37]? = some (.int .i64 (N : Int)) := hs 2 (by kernel_rfl) _ rfl 37 rfl
              refine ⟨_, rfl, fun KR hKR => ?_⟩
              rw [if_pos (show Region.wanted _ _ = true from rfl)]
              clear hs ho
              go_simp
              exact hKR _ (Below.refl _ _)
            · obtain rfl : (.bool true) = v_ := Lf.v.inj (Option.some.inj (show some (Lf.v (.bool true)) = some (Lf.v v_) from hi))
              clear hi hl
              have e38 : a_.tmps[38]? = some (.bool true) := hs 3 (by kernel_rfl) _ rfl 38 rfl
              refine ⟨_, rfl, fun KR hKR => ?_⟩
              rw [if_pos (show Region.wanted _ _ = true from rfl)]
              clear hs ho
              go_simp
              exact hKR _ (Below.refl _ _)
            · obtain rfl : (.func (.func 36) #[] #[]) = v_ := Lf.v.inj (Option.some.inj (show some (Lf.v (.func (.func 36) #[] #[])) = some (Lf.v v_) from hi))
              clear hi hl
              have e2 : a_.tmps[2]? = some (.func (.func 36) #[] #[]) := (ho 2 (by kernel_rfl)).trans rfl
              have e39 : a_.tmps[39]? = some (.bool true) := hs 4 (by kernel_rfl) _ rfl 39 rfl
              refine ⟨_, rfl, fun KR hKR => ?_⟩
              rw [if_pos (wanted_of (j := 4) (d := 39) rfl rfl e39)]
              clear e39
              clear hs ho
              go_simp
              exact hKR _ (Below.refl _ _)
            · obtain rfl : (.slice (some ⟨g, o, none⟩) N c) = v_ := Lf.v.inj (Option.some.inj (show some (Lf.v (.slice (some ⟨g, o, none⟩) N c)) = some (Lf.v v_) from hi))
              clear hi hl
              have e0 : a_.tmps[0]? = some (.slice (some ⟨g, o, none⟩) N c) := (ho 0 (by kernel_rfl)).trans rfl
              have e39 : a_.tmps[39]? = some (.bool true) := hs 4 (by kernel_rfl) _ rfl 39 rfl
              refine ⟨_, rfl, fun KR hKR => ?_⟩
              rw [if_pos (wanted_of (j := 4) (d := 39) rfl rfl e39)]
              clear e39
              clear hs ho
              go_simp
              exact hKR _ (Below.refl _ _)
            · obtain rfl : (.int .i64 (i : Int)) = v_ := Lf.v.inj (Option.some.inj (show some (Lf.v (.int .i64 (i : Int))) = some (Lf.v v_) from hi))
              clear hi hl
              have e9 : a_.tmps[9]? = some (.int .i64 (i : Int)) := (ho 9 (by kernel_rfl)).trans rfl
              have e39 : a_.tmps[39]? = some (.bool true) := hs 4 (by kernel_rfl) _ rfl 39 rfl
              refine ⟨_, rfl, fun KR hKR => ?_⟩
              rw [if_pos (wanted_of (j := 4) (d := 39) rfl rfl e39)]
              clear e39
              clear hs ho
              go_simp
              exact hKR _ (Below.refl _ _)
            · obtain rfl : (.pointer (some ⟨g, o + i * 2, none⟩)) = v_ := Lf.v.inj (Option.some.inj (show some (Lf.v (.pointer (some ⟨g, o + i * 2, none⟩))) = some (Lf.v v_) from hi))
              clear hi hl
              have e41 : a_.tmps[41]? = some (.slice (some ⟨g, o, none⟩) N c) := hs 6 (by kernel_rfl) _ rfl 41 rfl
              have e42 : a_.tmps[42]? = some (.int .i64 (i : Int)) := hs 7 (by kernel_rfl) _ rfl 42 rfl
              have e39 : a_.tmps[39]? = some (.bool true) := hs 4 (by kernel_rfl) _ rfl 39 rfl
              refine ⟨_, rfl, fun KR hKR => ?_⟩
              rw [if_pos (wanted_of (j := 4) (d := 39) rfl rfl e39)]
              clear e39
              clear hs ho
              go_simp
              exact hKR _ (Below.refl _ _)
            · obtain rfl : (.agg (SS a)) = v_ := Lf.v.inj (Option.some.inj (show some (Lf.v (.agg (SS a))) = some (Lf.v v_) from hi))
              clear hi hl
              have e43 : a_.tmps[43]? = some (.pointer (some ⟨g, o + i * 2, none⟩)) := hs 8 (by kernel_rfl) _ rfl 43 rfl
              have e39 : a_.tmps[39]? = some (.bool true) := hs 4 (by kernel_rfl) _ rfl 39 rfl
              refine ⟨_, rfl, fun KR hKR => ?_⟩
              rw [if_pos (wanted_of (j := 4) (d := 39) rfl rfl e39)]
              clear e39
              clear hs ho
              (refine wp_load_mid 34 (.tmp 43) rfl g (o + i * 2) (by simp [Act.eval, e43]) (SS a).toList _ (range_below hB HX.out) Try.underlying34 rfl (info34 _) ?_; exact hKR _ (Below.refl _ _))
            · obtain rfl : (.agg (SS s)) = v_ := Lf.v.inj (Option.some.inj (show some (Lf.v (.agg (SS s))) = some (Lf.v v_) from hi))
              clear hi hl
              have e4 : a_.tmps[4]? = some (.pointer (some ⟨w.heap.size, 0, none⟩)) := (ho 4 (by kernel_rfl)).trans rfl
              have e39 : a_.tmps[39]? = some (.bool true) := hs 4 (by kernel_rfl) _ rfl 39 rfl
              refine ⟨_, rfl, fun KR hKR => ?_⟩
              rw [if_pos (wanted_of (j := 4) (d := 39) rfl rfl e39)]
              clear e39
              clear hs ho
              (refine wp_load_mid 34 (.tmp 4) rfl w.heap.size (0) (by simp [Act.eval, e4]) (SS s).toList _ (range_below hB HS.out) Try.underlying34 rfl (info34 _) ?_; exact hKR _ (Below.refl _ _))
            · obtain rfl : (.int .i64 z) = v_ := Lf.v.inj (Option.some.inj (show some (Lf.v (.int .i64 z)) = some (Lf.v v_) from hi))
              clear hi hl
              have e40 : a_.tmps[40]? = some (.func (.func 36) #[] #[]) := hs 5 (by kernel_rfl) _ rfl 40 rfl
              have e44 : a_.tmps[44]? = some (.agg (SS a)) := hs 9 (by kernel_rfl) _ rfl 44 rfl
              have e45 : a_.tmps[45]? = some (.agg (SS s)) := hs 10 (by kernel_rfl) _ rfl 45 rfl
              have e39 : a_.tmps[39]? = some (.bool true) := hs 4 (by kernel_rfl) _ rfl 39 rfl
              refine ⟨_, rfl, fun KR hKR => ?_⟩
              rw [if_pos (wanted_of (j := 4) (d := 39) rfl rfl e39)]
              clear e39
              clear hs ho
              (go_simp; go_at_call 36; refine (cmp_any (toI a) (toI s) _).mono ?_; rintro e w1 ⟨rfl, hb⟩; rw [HZ.out]; exact hKR _ hb)
            · obtain rfl : (.bool true) = v_ := Lf.v.inj (Option.some.inj (show some (Lf.v (.bool true)) = some (Lf.v v_) from hi))
              clear hi hl
              have e46 : a_.tmps[46]? = some (.int .i64 z) := hs 11 (by kernel_rfl) _ rfl 46 rfl
              have e39 : a_.tmps[39]? = some (.bool true) := hs 4 (by kernel_rfl) _ rfl 39 rfl
              refine ⟨_, rfl, fun KR hKR => ?_⟩
              rw [if_pos (wanted_of (j := 4) (d := 39) rfl rfl e39)]
              clear e39
              clear hs ho
              go_simp
              exact hKR _ (Below.refl _ _)
            · obtain rfl : (.bool true) = v_ := Lf.v.inj (Option.some.inj (show some (Lf.v (.bool true)) = some (Lf.v v_) from hi))
              clear hi hl
              have e39 : a_.tmps[39]? = some (.bool true) := hs 4 (by kernel_rfl) _ rfl 39 rfl
              have e47 : a_.tmps[47]? = some (.bool true) := hs 12 (by kernel_rfl) _ rfl 47 rfl
              refine ⟨_, rfl, fun KR hKR => ?_⟩
              rw [if_pos (show Region.wanted _ _ = true from rfl)]
              clear hs ho
              go_simp
              exact hKR _ (Below.refl _ _)
            · obtain rfl : (.int .i64 (i : Int)) = v_ := Lf.v.inj (Option.some.inj (show some (Lf.v (.int .i64 (i : Int))) = some (Lf.v v_) from hi))
              clear hi hl
              have e35 : a_.tmps[35]? = some (.int .i64 (i : Int)) := hs 0 (by kernel_rfl) _ rfl 35 rfl
              refine ⟨_, rfl, fun KR hKR => ?_⟩
              rw [if_pos (show Region.wanted _ _ = true from rfl)]
              clear hs ho
              go_simp
              exact hKR _ (Below.refl _ _)
            · obtain rfl : (.bool true) = v_ := Lf.v.inj (Option.some.inj (show some (Lf.v (.bool true)) = some (Lf.v v_) from hi))
              clear hi hl
              have e48 : a_.tmps[48]? = some (.bool true) := hs 13 (by kernel_rfl) _ rfl 48 rfl
              refine ⟨_, rfl, fun KR hKR => ?_⟩
              rw [if_pos (show Region.wanted _ _ = true from rfl)]
              clear hs ho
              go_simp
              exact hKR _ (Below.refl _ _)
          · intro i_ T_ Z_ S_ k_ hi a_ W
            have hl := (List.getElem?_eq_some_iff.1 hi).1
            rcases (show i_ = 0 ∨ i_ = 1 ∨ i_ = 2 ∨ i_ = 3 ∨ i_ = 4 ∨ i_ = 5 ∨ i_ = 6 ∨ i_ = 7 ∨ i_ = 8 ∨ i_ = 9 ∨ i_ = 10 ∨ i_ = 11 ∨ i_ = 12 ∨ i_ = 13 ∨ i_ = 14 ∨ i_ = 15 by simp at hl; omega) with rfl | rfl | rfl | rfl | rfl | rfl | rfl | rfl | rfl | rfl | rfl | rfl | rfl | rfl | rfl | rfl
            · exact Lf.noConfusion (Option.some.inj (show some (Lf.v (.int .i64 (i : Int))) = some (Lf.nw T_ Z_ S_ k_) from hi))
            · exact Lf.noConfusion (Option.some.inj (show some (Lf.v (.int .i64 (i : Int))) = some (Lf.nw T_ Z_ S_ k_) from hi))
            · exact Lf.noConfusion (Option.some.inj (show some (Lf.v (.int .i64 (N : Int))) = some (Lf.nw T_ Z_ S_ k_) from hi))
            · exact Lf.noConfusion (Option.some.inj (show some (Lf.v (.bool true)) = some (Lf.nw T_ Z_ S_ k_) from hi))
            · exact Lf.noConfusion (Option.some.inj (show some (Lf.v (.bool true)) = some (Lf.nw T_ Z_ S_ k_) from hi))
            · exact Lf.noConfusion (Option.some.inj (show some (Lf.v (.func (.func 36) #[] #[])) = some (Lf.nw T_ Z_ S_ k_) from hi))
            · exact Lf.noConfusion (Option.some.inj (show some (Lf.v (.slice (some ⟨g, o, none⟩) N c)) = some (Lf.nw T_ Z_ S_ k_) from hi))
            · exact Lf.noConfusion (Option.some.inj (show some (Lf.v (.int .i64 (i : Int))) = some (Lf.nw T_ Z_ S_ k_) from hi))
            · exact Lf.noConfusion (Option.some.inj (show some (Lf.v (.pointer (some ⟨g, o + i * 2, none⟩))) = some (Lf.nw T_ Z_ S_ k_) from hi))
            · exact Lf.noConfusion (Option.some.inj (show some (Lf.v (.agg (SS a))) = some (Lf.nw T_ Z_ S_ k_) from hi))
            · exact Lf.noConfusion (Option.some.inj (show some (Lf.v (.agg (SS s))) = some (Lf.nw T_ Z_ S_ k_) from hi))
            · exact Lf.noConfusion (Option.some.inj (show some (Lf.v (.int .i64 z)) = some (Lf.nw T_ Z_ S_ k_) from hi))
            · exact Lf.noConfusion (Option.some.inj (show some (Lf.v (.bool true)) = some (Lf.nw T_ Z_ S_ k_) from hi))
            · exact Lf.noConfusion (Option.some.inj (show some (Lf.v (.bool true)) = some (Lf.nw T_ Z_ S_ k_) from hi))
            · exact Lf.noConfusion (Option.some.inj (show some (Lf.v (.int .i64 (i : Int))) = some (Lf.nw T_ Z_ S_ k_) from hi))
            · exact Lf.noConfusion (Option.some.inj (show some (Lf.v (.bool true)) = some (Lf.nw T_ Z_ S_ k_) from hi))
          · intro i_ m_ T_ Z_ S_ hi hm_ a_ W g_ hp_ hg hs
            have hl := (List.getElem?_eq_some_iff.1 hi).1
            rcases (show i_ = 0 ∨ i_ = 1 ∨ i_ = 2 ∨ i_ = 3 ∨ i_ = 4 ∨ i_ = 5 ∨ i_ = 6 ∨ i_ = 7 ∨ i_ = 8 ∨ i_ = 9 ∨ i_ = 10 ∨ i_ = 11 ∨ i_ = 12 ∨ i_ = 13 ∨ i_ = 14 ∨ i_ = 15 by simp at hl; omega) with rfl | rfl | rfl | rfl | rfl | rfl | rfl | rfl | rfl | rfl | rfl | rfl | rfl | rfl | rfl | rfl
            · exact Lf.noConfusion (Option.some.inj (show some (Lf.v (.int .i64 (i : Int))) = some (Lf.st m_) from hi))
            · exact Lf.noConfusion (Option.some.inj (show some (Lf.v (.int .i64 (i : Int))) = some (Lf.st m_) from hi))
            · exact Lf.noConfusion (Option.some.inj (show some (Lf.v (.int .i64 (N : Int))) = some (Lf.st m_) from hi))
            · exact Lf.noConfusion (Option.some.inj (show some (Lf.v (.bool true)) = some (Lf.st m_) from hi))
            · exact Lf.noConfusion (Option.some.inj (show some (Lf.v (.bool true)) = some (Lf.st m_) from hi))
            · exact Lf.noConfusion (Option.some.inj (show some (Lf.v (.func (.func 36) #[] #[])) = some (Lf.st m_) from hi))
            · exact Lf.noConfusion (Option.some.inj (show some (Lf.v (.slice (some ⟨g, o, none⟩) N c)) = some (Lf.st m_) from hi))
            · exact Lf.noConfusion (Option.some.inj (show some (Lf.v (.int .i64 (i : Int))) = some (Lf.st m_) from hi))
            · exact Lf.noConfusion (Option.some.inj (show some (Lf.v (.pointer (some ⟨g, o + i * 2, none⟩))) = some (Lf.st m_) from hi))
            · exact Lf.noConfusion (Option.some.inj (show some (Lf.v (.agg (SS a))) = some (Lf.st m_) from hi))
            · exact Lf.noConfusion (Option.some.inj (show some (Lf.v (.agg (SS s))) = some (Lf.st m_) from hi))
            · exact Lf.noConfusion (Option.some.inj (show some (Lf.v (.int .i64 z)) = some (Lf.st m_) from hi))
            · exact Lf.noConfusion (Option.some.inj (show some (Lf.v (.bool true)) = some (Lf.st m_) from hi))
            · exact Lf.noConfusion (Option.some.inj (show some (Lf.v (.bool true)) = some (Lf.st m_) from hi))
            · exact Lf.noConfusion (Option.some.inj (show some (Lf.v (.int .i64 (i : Int))) = some (Lf.st m_) from hi))
            · exact Lf.noConfusion (Option.some.inj (show some (Lf.v (.bool true)) = some (Lf.st m_) from hi))
          · intro b_ vals_ W hall hI
            have hB := hI.bel
            have v0 : vals_ 0 = .int .i64 (i : Int) := hI.has 0 (Nat.le_of_ble_eq_true rfl) (hall 0 (Nat.le_of_ble_eq_true rfl))
            have v1 : vals_ 1 = .int .i64 (i : Int) := hI.has 1 (Nat.le_of_ble_eq_true rfl) (hall 1 (Nat.le_of_ble_eq_true rfl))
            have v2 : vals_ 2 = .int .i64 (N : Int) := hI.has 2 (Nat.le_of_ble_eq_true rfl) (hall 2 (Nat.le_of_ble_eq_true rfl))
            have v3 : vals_ 3 = .bool true := hI.has 3 (Nat.le_of_ble_eq_true rfl) (hall 3 (Nat.le_of_ble_eq_true rfl))
            have v4 : vals_ 4 = .bool true := hI.has 4 (Nat.le_of_ble_eq_true rfl) (hall 4 (Nat.le_of_ble_eq_true rfl))
            have v5 : vals_ 5 = .func (.func 36) #[] #[] := hI.has 5 (Nat.le_of_ble_eq_true rfl) (hall 5 (Nat.le_of_ble_eq_true rfl))
            have v6 : vals_ 6 = .slice (some ⟨g, o, none⟩) N c := hI.has 6 (Nat.le_of_ble_eq_true rfl) (hall 6 (Nat.le_of_ble_eq_true rfl))
            have v7 : vals_ 7 = .int .i64 (i : Int) := hI.has 7 (Nat.le_of_ble_eq_true rfl) (hall 7 (Nat.le_of_ble_eq_true rfl))
            have v8 : vals_ 8 = .pointer (some ⟨g, o + i * 2, none⟩) := hI.has 8 (Nat.le_of_ble_eq_true rfl) (hall 8 (Nat.le_of_ble_eq_true rfl))
            have v9 : vals_ 9 = .agg (SS a) := hI.has 9 (Nat.le_of_ble_eq_true rfl) (hall 9 (Nat.le_of_ble_eq_true rfl))
            have v10 : vals_ 10 = .agg (SS s) := hI.has 10 (Nat.le_of_ble_eq_true rfl) (hall 10 (Nat.le_of_ble_eq_true rfl))
            have v11 : vals_ 11 = .int .i64 z := hI.has 11 (Nat.le_of_ble_eq_true rfl) (hall 11 (Nat.le_of_ble_eq_true rfl))
            have v12 : vals_ 12 = .bool true := hI.has 12 (Nat.le_of_ble_eq_true rfl) (hall 12 (Nat.le_of_ble_eq_true rfl))
            have v13 : vals_ 13 = .bool true := hI.has 13 (Nat.le_of_ble_eq_true rfl) (hall 13 (Nat.le_of_ble_eq_true rfl))
            have v14 : vals_ 14 = .int .i64 (i : Int) := hI.has 14 (Nat.le_of_ble_eq_true rfl) (hall 14 (Nat.le_of_ble_eq_true rfl))
            have v15 : vals_ 15 = .bool true := hI.has 15 (Nat.le_of_ble_eq_true rfl) (hall 15 (Nat.le_of_ble_eq_true rfl))
            simp only [List.length_cons, List.length_nil, Nat.zero_add, Nat.reduceAdd, List.size_toArray, slots, if_true, dstOf, List.getElem?_toArray, List.getElem?_cons_zero, List.getElem?_cons_succ, Option.bind_some, Act.put, List.setIfInBounds_toArray, List.set_cons_zero, List.set_cons_succ, v0, v1, v2, v3, v4, v5, v6, v7, v8, v9, v10, v11, v12, v13, v14, v15]
            clear hI hall v0 v1 v2 v3 v4 v5 v6 v7 v8 v9 v10 v11 v12 v13 v14 v15
            change wpAny _ _ _ _ 0 _ _ _
            refine wpAny_done (by kernel_rfl) ?_ _
            have HB2 := Lib.hid (bel HB.out hB)
            clear hB
            go_wp2
            go_ret2
            rw [HPL.out, HF.out]
            exact ⟨rfl, bel HW.out HB2.out⟩
        · have HF := Lib.hid (show fnd l s = false from by unfold fnd; rw [HPL.out, HXJ.out]; exact decide_eq_false (fun e => hz (by rw [← HZ.out]; exact (cmp_eq a s).2 (Option.some.inj e))))
          have hz2 : (z == 0) = false := beq_eq_false_iff_ne.2 hz
          refine drawn_st (w := wr) ([Lf.v (.int .i64 (i : Int)), Lf.v (.int .i64 (i : Int)), Lf.v (.int .i64 (N : Int)), Lf.v (.bool true), Lf.v (.bool true), Lf.v (.func (.func 36) #[] #[]), Lf.v (.slice (some ⟨g, o, none⟩) N c), Lf.v (.int .i64 (i : Int)), Lf.v (.pointer (some ⟨g, o + i * 2, none⟩)), Lf.v (.agg (SS a)), Lf.v (.agg (SS s)), Lf.v (.int .i64 z), Lf.v (.bool false), Lf.v (.bool false), Lf.v (.int .i64 (i : Int)), Lf.v (.bool false)] : List Lf) (by kernel_rfl) (by kernel_rfl) (by kernel_rfl) (by kernel_rfl) ?_ ?_ ?_ ?_
          · intro i_ v_ hi a_ W hs ho hB
            have hl := (List.getElem?_eq_some_iff.1 hi).1
            rcases (show i_ = 0 ∨ i_ = 1 ∨ i_ = 2 ∨ i_ = 3 ∨ i_ = 4 ∨ i_ = 5 ∨ i_ = 6 ∨ i_ = 7 ∨ i_ = 8 ∨ i_ = 9 ∨ i_ = 10 ∨ i_ = 11 ∨ i_ = 12 ∨ i_ = 13 ∨ i_ = 14 ∨ i_ = 15 by simp at hl; omega) with rfl | rfl | rfl | rfl | rfl | rfl | rfl | rfl | rfl | rfl | rfl | rfl | rfl | rfl | rfl | rfl
            · obtain rfl : (.int .i64 (i : Int)) = v_ := Lf.v.inj (Option.some.inj (show some (Lf.v (.int .i64 (i : Int))) = some (Lf.v v_) from hi))
              clear hi hl
              have e9 : a_.tmps[9]? = some (.int .i64 (i : Int)) := (ho 9 (by kernel_rfl)).trans rfl
              refine ⟨_, rfl, fun KR hKR => ?_⟩
              rw [if_pos (show Region.wanted _ _ = true from rfl)]
              clear hs ho
              go_simp
              exact hKR _ (Below.refl _ _)
            · obtain rfl : (.int .i64 (i : Int)) = v_ := Lf.v.inj (Option.some.inj (show some (Lf.v (.int .i64 (i : Int))) = some (Lf.v v_) from hi))
              clear hi hl
              have e9 : a_.tmps[9]? = some (.int .i64 (i : Int)) := (ho 9 (by kernel_rfl)).trans rfl
              refine ⟨_, rfl, fun KR hKR => ?_⟩
              rw [if_pos (show Region.wanted _ _ = true from rfl)]
              clear hs ho
              go_simp
              exact hKR _ (Below.refl _ _)
            · obtain rfl : (.int .i64 (N : Int)) = v_ := Lf.v.inj (Option.some.inj (show some (Lf.v (.int .i64 (N : Int))) = some (Lf.v v_) from hi))
              clear hi hl
              have e8 : a_.tmps[8]? = some (.int .i64 (N : Int)) := (ho 8 (by kernel_rfl)).trans rfl
              refine ⟨_, rfl, fun KR hKR => ?_⟩
              rw [if_pos (show Region.wanted _ _ = true from rfl)]
              clear hs ho
              go_simp
              exact hKR _ (Below.refl _ _)
            · obtain rfl : (.bool true) = v_ := Lf.v.inj (Option.some.inj (show some (Lf.v (.bool true)) = some (Lf.v v_) from hi))
              clear hi hl
              have e36 : a_.tmps[36]? = some (.int .i64 (i : Int)) := hs 1 (by kernel_rfl) _ rfl 36 rfl
              have e37 : a_.tmps[37]? = some (.int .i64 (N : Int)) := hs 2 (by kernel_rfl) _ rfl 37 rfl
              refine ⟨_, rfl, fun KR hKR => ?_⟩
              rw [if_pos (show Region.wanted _ _ = true from rfl)]
              clear hs ho
              go_simp
              exact hKR _ (Below.refl _ _)
            · obtain rfl : (.bool true) = v_ := Lf.v.inj (Option.some.inj (show some (Lf.v (.bool true)) = some (Lf.v v_) from hi))
              clear hi hl
              have e38 : a_.tmps[38]? = some (.bool true) := hs 3 (by kernel_rfl) _ rfl 38 rfl
              refine ⟨_, rfl, fun KR hKR => ?_⟩
              rw [if_pos (show Region.wanted _ _ = true from rfl)]
              clear hs ho
              go_simp
              exact hKR _ (Below.refl _ _)
            · obtain rfl : (.func (.func 36) #[] #[]) = v_ := Lf.v.inj (Option.some.inj (show some (Lf.v (.func (.func 36) #[] #[])) = some (Lf.v v_) from hi))
              clear hi hl
              have e2 : a_.tmps[2]? = some (.func (.func 36) #[] #[]) := (ho 2 (by kernel_rfl)).trans rfl
              have e39 : a_.tmps[39]? = some (.bool true) := hs 4 (by kernel_rfl) _ rfl 39 rfl
              refine ⟨_, rfl, fun KR hKR => ?_⟩
              rw [if_pos (wanted_of (j := 4) (d := 39) rfl rfl e39)]
              clear e39
              clear hs ho
              go_simp
              exact hKR _ (Below.refl _ _)
            · obtain rfl : (.slice (some ⟨g, o, none⟩) N c) = v_ := Lf.v.inj (Option.some.inj (show some (Lf.v (.slice (some ⟨g, o, none⟩) N c)) = some (Lf.v v_) from hi))
              clear hi hl
              have e0 : a_.tmps[0]? = some (.slice (some ⟨g, o, none⟩) N c) := (ho 0 (by kernel_rfl)).trans rfl
              have e39 : a_.tmps[39]? = some (.bool true) := hs 4 (by kernel_rfl) _ rfl 39 rfl
              refine ⟨_, rfl, fun KR hKR => ?_⟩
              rw [if_pos (wanted_of (j := 4) (d := 39) rfl rfl e39)]
              clear e39
              clear hs ho
              go_simp
              exact hKR _ (Below.refl _ _)
            · obtain rfl : (.int .i64 (i : Int)) = v_ := Lf.v.inj (Option.some.inj (show some (Lf.v (.int .i64 (i : Int))) = some (Lf.v v_) from hi))
              clear hi hl
              have e9 : a_.tmps[9]? = some (.int .i64 (i : Int)) := (ho 9 (by kernel_rfl)).trans rfl
              have e39 : a_.tmps[39]? = some (.bool true) := hs 4 (by kernel_rfl) _ rfl 39 rfl
              refine ⟨_, rfl, fun KR hKR => ?_⟩
              rw [if_pos (wanted_of (j := 4) (d := 39) rfl rfl e39)]
              clear e39
              clear hs ho
              go_simp
              exact hKR _ (Below.refl _ _)
            · obtain rfl : (.pointer (some ⟨g, o + i * 2, none⟩)) = v_ := Lf.v.inj (Option.some.inj (show some (Lf.v (.pointer (some ⟨g, o + i * 2, none⟩))) = some (Lf.v v_) from hi))
              clear hi hl
              have e41 : a_.tmps[41]? = some (.slice (some ⟨g, o, none⟩) N c) := hs 6 (by kernel_rfl) _ rfl 41 rfl
              have e42 : a_.tmps[42]? = some (.int .i64 (i : Int)) := hs 7 (by kernel_rfl) _ rfl 42 rfl
              have e39 : a_.tmps[39]? = some (.bool true) := hs 4 (by kernel_rfl) _ rfl 39 rfl
              refine ⟨_, rfl, fun KR hKR => ?_⟩
              rw [if_pos (wanted_of (j := 4) (d := 39) rfl rfl e39)]
              clear e39
              clear hs ho
              go_simp
              exact hKR _ (Below.refl _ _)
            · obtain rfl : (.agg (SS a)) = v_ := Lf.v.inj (Option.some.inj (show some (Lf.v (.agg (SS a))) = some (Lf.v v_) from hi))
              clear hi hl
              have e43 : a_.tmps[43]? = some (.pointer (some ⟨g, o + i * 2, none⟩)) := hs 8 (by kernel_rfl) _ rfl 43 rfl
              have e39 : a_.tmps[39]? = some (.bool true) := hs 4 (by kernel_rfl) _ rfl 39 rfl
              refine ⟨_, rfl, fun KR hKR => ?_⟩
              rw [if_pos (wanted_of (j := 4) (d := 39) rfl rfl e39)]
              clear e39
              clear hs ho
              (refine wp_load_mid 34 (.tmp 43) rfl g (o + i * 2) (by simp [Act.eval, e43]) (SS a).toList _ (range_below hB HX.out) Try.underlying34 rfl (info34 _) ?_; exact hKR _ (Below.refl _ _))
            · obtain rfl : (.agg (SS s)) = v_ := Lf.v.inj (Option.some.inj (show some (Lf.v (.agg (SS s))) = some (Lf.v v_) from hi))
              clear hi hl
              have e4 : a_.tmps[4]? = some (.pointer (some ⟨w.heap.size, 0, none⟩)) := (ho 4 (by kernel_rfl)).trans rfl
              have e39 : a_.tmps[39]? = some (.bool true) := hs 4 (by kernel_rfl) _ rfl 39 rfl
              refine ⟨_, rfl, fun KR hKR => ?_⟩
              rw [if_pos (wanted_of (j := 4) (d := 39) rfl rfl e39)]
              clear e39
              clear hs ho
              (refine wp_load_mid 34 (.tmp 4) rfl w.heap.size (0) (by simp [Act.eval, e4]) (SS s).toList _ (range_below hB HS.out) Try.underlying34 rfl (info34 _) ?_; exact hKR _ (Below.refl _ _))
            · obtain rfl : (.int .i64 z) = v_ := Lf.v.inj (Option.some.inj (show some (Lf.v (.int .i64 z)) = some (Lf.v v_) from hi))
              clear hi hl
              have e40 : a_.tmps[40]? = some (.func (.func 36) #[] #[]) := hs 5 (by kernel_rfl) _ rfl 40 rfl
              have e44 : a_.tmps[44]? = some (.agg (SS a)) := hs 9 (by kernel_rfl) _ rfl 44 rfl
              have e45 : a_.tmps[45]? = some (.agg (SS s)) := hs 10 (by kernel_rfl) _ rfl 45 rfl
              have e39 : a_.tmps[39]? = some (.bool true) := hs 4 (by kernel_rfl) _ rfl 39 rfl
              refine ⟨_, rfl, fun KR hKR => ?_⟩
              rw [if_pos (wanted_of (j := 4) (d := 39) rfl rfl e39)]
              clear e39
              clear hs ho
              (go_simp; go_at_call 36; refine (cmp_any (toI a) (toI s) _).mono ?_; rintro e w1 ⟨rfl, hb⟩; rw [HZ.out]; exact hKR _ hb)
            · obtain rfl : (.bool false) = v_ := Lf.v.inj (Option.some.inj (show some (Lf.v (.bool false)) = some (Lf.v v_) from hi))
              clear hi hl
              have e46 : a_.tmps[46]? = some (.int .i64 z) := hs 11 (by kernel_rfl) _ rfl 46 rfl
              have e39 : a_.tmps[39]? = some (.bool true) := hs 4 (by kernel_rfl) _ rfl 39 rfl
              refine ⟨_, rfl, fun KR hKR => ?_⟩
              rw [if_pos (wanted_of (j := 4) (d := 39) rfl rfl e39)]
              clear e39
              clear hs ho
              go_simp
              exact hKR _ (Below.refl _ _)
            · obtain rfl : (.bool false) = v_ := Lf.v.inj (Option.some.inj (show some (Lf.v (.bool false)) = some (Lf.v v_) from hi))
              clear hi hl
              have e39 : a_.tmps[39]? = some (.bool true) := hs 4 (by kernel_rfl) _ rfl 39 rfl
              have e47 : a_.tmps[47]? = some (.bool false) := hs 12 (by kernel_rfl) _ rfl 47 rfl
              refine ⟨_, rfl, fun KR hKR => ?_⟩
              rw [if_pos (show Region.wanted _ _ = true from rfl)]
              clear hs ho
              go_simp
              exact hKR _ (Below.refl _ _)
            · obtain rfl : (.int .i64 (i : Int)) = v_ := Lf.v.inj (Option.some.inj (show some (Lf.v (.int .i64 (i : Int))) = some (Lf.v v_) from hi))
              clear hi hl
              have e35 : a_.tmps[35]? = some (.int .i64 (i : Int)) := hs 0 (by kernel_rfl) _ rfl 35 rfl
              refine ⟨_, rfl, fun KR hKR => ?_⟩
              rw [if_pos (show Region.wanted _ _ = true from rfl)]
              clear hs ho
              go_simp
              exact hKR _ (Below.refl _ _)
            · obtain rfl : (.bool false) = v_ := Lf.v.inj (Option.some.inj (show some (Lf.v (.bool false)) = some (Lf.v v_) from hi))
              clear hi hl
              have e48 : a_.tmps[48]? = some (.bool false) := hs 13 (by kernel_rfl) _ rfl 48 rfl
              refine ⟨_, rfl, fun KR hKR => ?_⟩
              rw [if_pos (show Region.wanted _ _ = true from rfl)]
              clear hs ho
              go_simp
              exact hKR _ (Below.refl _ _)
          · intro i_ T_ Z_ S_ k_ hi a_ W
            have hl := (List.getElem?_eq_some_iff.1 hi).1
            rcases (show i_ = 0 ∨ i_ = 1 ∨ i_ = 2 ∨ i_ = 3 ∨ i_ = 4 ∨ i_ = 5 ∨ i_ = 6 ∨ i_ = 7 ∨ i_ = 8 ∨ i_ = 9 ∨ i_ = 10 ∨ i_ = 11 ∨ i_ = 12 ∨ i_ = 13 ∨ i_ = 14 ∨ i_ = 15 by simp at hl; omega) with rfl | rfl | rfl | rfl | rfl | rfl | rfl | rfl | rfl | rfl | rfl | rfl | rfl | rfl | rfl | rfl
            · exact Lf.noConfusion (Option.some.inj (show some (Lf.v (.int .i64 (i : Int))) = some (Lf.nw T_ Z_ S_ k_) from hi))
            · exact Lf.noConfusion (Option.some.inj (show some (Lf.v (.int .i64 (i : Int))) = some (Lf.nw T_ Z_ S_ k_) from hi))
            · exact Lf.noConfusion (Option.some.inj (show some (Lf.v (.int .i64 (N : Int))) = some (Lf.nw T_ Z_ S_ k_) from hi))
            · exact Lf.noConfusion (Option.some.inj (show some (Lf.v (.bool true)) = some (Lf.nw T_ Z_ S_ k_) from hi))
            · exact Lf.noConfusion (Option.some.inj (show some (Lf.v (.bool true)) = some (Lf.nw T_ Z_ S_ k_) from hi))
            · exact Lf.noConfusion (Option.some.inj (show some (Lf.v (.func (.func 36) #[] #[])) = some (Lf.nw T_ Z_ S_ k_) from hi))
            · exact Lf.noConfusion (Option.some.inj (show some (Lf.v (.slice (some ⟨g, o, none⟩) N c)) = some (Lf.nw T_ Z_ S_ k_) from hi))
            · exact Lf.noConfusion (Option.some.inj (show some (Lf.v (.int .i64 (i : Int))) = some (Lf.nw T_ Z_ S_ k_) from hi))
            · exact Lf.noConfusion (Option.some.inj (show some (Lf.v (.pointer (some ⟨g, o + i * 2, none⟩))) = some (Lf.nw T_ Z_ S_ k_) from hi))
            · exact Lf.noConfusion (Option.some.inj (show some (Lf.v (.agg (SS a))) = some (Lf.nw T_ Z_ S_ k_) from hi))
            · exact Lf.noConfusion (Option.some.inj (show some (Lf.v (.agg (SS s))) = some (Lf.nw T_ Z_ S_ k_) from hi))
            · exact Lf.noConfusion (Option.some.inj (show some (Lf.v (.int .i64 z)) = some (Lf.nw T_ Z_ S_ k_) from hi))
            · exact Lf.noConfusion (Option.some.inj (show some (Lf.v (.bool false)) = some (Lf.nw T_ Z_ S_ k_) from hi))
            · exact Lf.noConfusion (Option.some.inj (show some (Lf.v (.bool false)) = some (Lf.nw T_ Z_ S_ k_) from hi))
            · exact Lf.noConfusion (Option.some.inj (show some (Lf.v (.int .i64 (i : Int))) = some (Lf.nw T_ Z_ S_ k_) from hi))
            · exact Lf.noConfusion (Option.some.inj (show some (Lf.v (.bool false)) = some (Lf.nw T_ Z_ S_ k_) from hi))
          · intro i_ m_ T_ Z_ S_ hi hm_ a_ W g_ hp_ hg hs
            have hl := (List.getElem?_eq_some_iff.1 hi).1
            rcases (show i_ = 0 ∨ i_ = 1 ∨ i_ = 2 ∨ i_ = 3 ∨ i_ = 4 ∨ i_ = 5 ∨ i_ = 6 ∨ i_ = 7 ∨ i_ = 8 ∨ i_ = 9 ∨ i_ = 10 ∨ i_ = 11 ∨ i_ = 12 ∨ i_ = 13 ∨ i_ = 14 ∨ i_ = 15 by simp at hl; omega) with rfl | rfl | rfl | rfl | rfl | rfl | rfl | rfl | rfl | rfl | rfl | rfl | rfl | rfl | rfl | rfl
            · exact Lf.noConfusion (Option.some.inj (show some (Lf.v (.int .i64 (i : Int))) = some (Lf.st m_) from hi))
            · exact Lf.noConfusion (Option.some.inj (show some (Lf.v (.int .i64 (i : Int))) = some (Lf.st m_) from hi))
            · exact Lf.noConfusion (Option.some.inj (show some (Lf.v (.int .i64 (N : Int))) = some (Lf.st m_) from hi))
            · exact Lf.noConfusion (Option.some.inj (show some (Lf.v (.bool true)) = some (Lf.st m_) from hi))
            · exact Lf.noConfusion (Option.some.inj (show some (Lf.v (.bool true)) = some (Lf.st m_) from hi))
            · exact Lf.noConfusion (Option.some.inj (show some (Lf.v (.func (.func 36) #[] #[])) = some (Lf.st m_) from hi))
            · exact Lf.noConfusion (Option.some.inj (show some (Lf.v (.slice (some ⟨g, o, none⟩) N c)) = some (Lf.st m_) from hi))
            · exact Lf.noConfusion (Option.some.inj (show some (Lf.v (.int .i64 (i : Int))) = some (Lf.st m_) from hi))
            · exact Lf.noConfusion (Option.some.inj (show some (Lf.v (.pointer (some ⟨g, o + i * 2, none⟩))) = some (Lf.st m_) from hi))
            · exact Lf.noConfusion (Option.some.inj (show some (Lf.v (.agg (SS a))) = some (Lf.st m_) from hi))
            · exact Lf.noConfusion (Option.some.inj (show some (Lf.v (.agg (SS s))) = some (Lf.st m_) from hi))
            · exact Lf.noConfusion (Option.some.inj (show some (Lf.v (.int .i64 z)) = some (Lf.st m_) from hi))
            · exact Lf.noConfusion (Option.some.inj (show some (Lf.v (.bool false)) = some (Lf.st m_) from hi))
            · exact Lf.noConfusion (Option.some.inj (show some (Lf.v (.bool false)) = some (Lf.st m_) from hi))
            · exact Lf.noConfusion (Option.some.inj (show some (Lf.v (.int .i64 (i : Int))) = some (Lf.st m_) from hi))
            · exact Lf.noConfusion (Option.some.inj (show some (Lf.v (.bool false)) = some (Lf.st m_) from hi))
          · intro b_ vals_ W hall hI
            have hB := hI.bel
            have v0 : vals_ 0 = .int .i64 (i : Int) := hI.has 0 (Nat.le_of_ble_eq_true rfl) (hall 0 (Nat.le_of_ble_eq_true rfl))
            have v1 : vals_ 1 = .int .i64 (i : Int) := hI.has 1 (Nat.le_of_ble_eq_true rfl) (hall 1 (Nat.le_of_ble_eq_true rfl))
            have v2 : vals_ 2 = .int .i64 (N : Int) := hI.has 2 (Nat.le_of_ble_eq_true rfl) (hall 2 (Nat.le_of_ble_eq_true rfl))
            have v3 : vals_ 3 = .bool true := hI.has 3 (Nat.le_of_ble_eq_true rfl) (hall 3 (Nat.le_of_ble_eq_true rfl))
            have v4 : vals_ 4 = .bool true := hI.has 4 (Nat.le_of_ble_eq_true rfl) (hall 4 (Nat.le_of_ble_eq_true rfl))
            have v5 : vals_ 5 = .func (.func 36) #[] #[] := hI.has 5 (Nat.le_of_ble_eq_true rfl) (hall 5 (Nat.le_of_ble_eq_true rfl))
            have v6 : vals_ 6 = .slice (some ⟨g, o, none⟩) N c := hI.has 6 (Nat.le_of_ble_eq_true rfl) (hall 6 (Nat.le_of_ble_eq_true rfl))
            have v7 : vals_ 7 = .int .i64 (i : Int) := hI.has 7 (Nat.le_of_ble_eq_true rfl) (hall 7 (Nat.le_of_ble_eq_true rfl))
            have v8 : vals_ 8 = .pointer (some ⟨g, o + i * 2, none⟩) := hI.has 8 (Nat.le_of_ble_eq_true rfl) (hall 8 (Nat.le_of_ble_eq_true rfl))
            have v9 : vals_ 9 = .agg (SS a) := hI.has 9 (Nat.le_of_ble_eq_true rfl) (hall 9 (Nat.le_of_ble_eq_true rfl))
            have v10 : vals_ 10 = .agg (SS s) := hI.has 10 (Nat.le_of_ble_eq_true rfl) (hall 10 (Nat.le_of_ble_eq_true rfl))
            have v11 : vals_ 11 = .int .i64 z := hI.has 11 (Nat.le_of_ble_eq_true rfl) (hall 11 (Nat.le_of_ble_eq_true rfl))
            have v12 : vals_ 12 = .bool false := hI.has 12 (Nat.le_of_ble_eq_true rfl) (hall 12 (Nat.le_of_ble_eq_true rfl))
            have v13 : vals_ 13 = .bool false := hI.has 13 (Nat.le_of_ble_eq_true rfl) (hall 13 (Nat.le_of_ble_eq_true rfl))
            have v14 : vals_ 14 = .int .i64 (i : Int) := hI.has 14 (Nat.le_of_ble_eq_true rfl) (hall 14 (Nat.le_of_ble_eq_true rfl))
            have v15 : vals_ 15 = .bool false := hI.has 15 (Nat.le_of_ble_eq_true rfl) (hall 15 (Nat.le_of_ble_eq_true rfl))
            simp only [List.length_cons, List.length_nil, Nat.zero_add, Nat.reduceAdd, List.size_toArray, slots, if_true, dstOf, List.getElem?_toArray, List.getElem?_cons_zero, List.getElem?_cons_succ, Option.bind_some, Act.put, List.setIfInBounds_toArray, List.set_cons_zero, List.set_cons_succ, v0, v1, v2, v3, v4, v5, v6, v7, v8, v9, v10, v11, v12, v13, v14, v15]
            clear hI hall v0 v1 v2 v3 v4 v5 v6 v7 v8 v9 v10 v11 v12 v13 v14 v15
            change wpAny _ _ _ _ 0 _ _ _
            refine wpAny_done (by kernel_rfl) ?_ _
            have HB2 := Lib.hid (bel HB.out hB)
            clear hB
            go_wp2
            go_ret2
            rw [HPL.out, HF.out]
            exact ⟨rfl, bel HW.out HB2.out⟩
      · obtain rfl : i = N := by omega
        have HPL := Lib.hid (plc_is l s i (by rw [← HN.out]; omega) HI.out (fun a ha => Int.not_lt.2 (HJ.out i a (Nat.le_refl _) ha)))
        have HF := Lib.hid (show fnd l s = false from by unfold fnd; rw [HPL.out, List.getElem?_eq_none (by rw [← HN.out]; omega)]; rfl)
        refine drawn_st (w := wr) ([Lf.v (.int .i64 (i : Int)), Lf.v (.int .i64 (i : Int)), Lf.v (.int .i64 (i : Int)), Lf.v (.bool false), Lf.v (.bool false), Lf.v (undef), Lf.v (undef), Lf.v (undef), Lf.v (undef), Lf.v (undef), Lf.v (undef), Lf.v (undef), Lf.v (undef), Lf.v (.bool false), Lf.v (.int .i64 (i : Int)), Lf.v (.bool false)] : List Lf) (by kernel_rfl) (by kernel_rfl) (by kernel_rfl) (by kernel_rfl) ?_ ?_ ?_ ?_
        · intro i_ v_ hi a_ W hs ho hB
          have hl := (List.getElem?_eq_some_iff.1 hi).1
          rcases (show i_ = 0 ∨ i_ = 1 ∨ i_ = 2 ∨ i_ = 3 ∨ i_ = 4 ∨ i_ = 5 ∨ i_ = 6 ∨ i_ = 7 ∨ i_ = 8 ∨ i_ = 9 ∨ i_ = 10 ∨ i_ = 11 ∨ i_ = 12 ∨ i_ = 13 ∨ i_ = 14 ∨ i_ = 15 by simp at hl; omega) with rfl | rfl | rfl | rfl | rfl | rfl | rfl | rfl | rfl | rfl | rfl | rfl | rfl | rfl | rfl | rfl
          · obtain rfl : (.int .i64 (i : Int)) = v_ := Lf.v.inj (Option.some.inj (show some (Lf.v (.int .i64 (i : Int))) = some (Lf.v v_) from hi))
            clear hi hl
            have e9 : a_.tmps[9]? = some (.int .i64 (i : Int)) := (ho 9 (by kernel_rfl)).trans rfl
            refine ⟨_, rfl, fun KR hKR => ?_⟩
            rw [if_pos (show Region.wanted _ _ = true from rfl)]
            clear hs ho
            go_simp
            exact hKR _ (Below.refl _ _)
          · obtain rfl : (.int .i64 (i : Int)) = v_ := Lf.v.inj (Option.some.inj (show some (Lf.v (.int .i64 (i : Int))) = some (Lf.v v_) from hi))
            clear hi hl
            have e9 : a_.tmps[9]? = some (.int .i64 (i : Int)) := (ho 9 (by kernel_rfl)).trans rfl
            refine ⟨_, rfl, fun KR hKR => ?_⟩
            rw [if_pos (show Region.wanted _ _ = true from rfl)]
            clear hs ho
            go_simp
            exact hKR _ (Below.refl _ _)
          · obtain rfl : (.int .i64 (i : Int)) = v_ := Lf.v.inj (Option.some.inj (show some (Lf.v (.int .i64 (i : Int))) = some (Lf.v v_) from hi))
            clear hi hl
            have e8 : a_.tmps[8]? = some (.int .i64 (i : Int)) := (ho 8 (by kernel_rfl)).trans rfl
            refine ⟨_, rfl, fun KR hKR => ?_⟩
            rw [if_pos (show Region.wanted _ _ = true from rfl)]
            clear hs ho
            go_simp
            exact hKR _ (Below.refl _ _)
          · obtain rfl : (.bool false) = v_ := Lf.v.inj (Option.some.inj (show some (Lf.v (.bool false)) = some (Lf.v v_) from hi))
            clear hi hl
            have e36 : a_.tmps[36]? = some (.int .i64 (i : Int)) := hs 1 (by kernel_rfl) _ rfl 36 rfl
            have e37 : a_.tmps[37]? = some (.int .i64 (i : Int)) := hs 2 (by kernel_rfl) _ rfl 37 rfl
            refine ⟨_, rfl, fun KR hKR => ?_⟩
            rw [if_pos (show Region.wanted _ _ = true from rfl)]
            clear hs ho
            go_simp
            exact hKR _ (Below.refl _ _)
          · obtain rfl : (.bool false) = v_ := Lf.v.inj (Option.some.inj (show some (Lf.v (.bool false)) = some (Lf.v v_) from hi))
            clear hi hl
            have e38 : a_.tmps[38]? = some (.bool false) := hs 3 (by kernel_rfl) _ rfl 38 rfl
            refine ⟨_, rfl, fun KR hKR => ?_⟩
            rw [if_pos (show Region.wanted _ _ = true from rfl)]
            clear hs ho
            go_simp
            exact hKR _ (Below.refl _ _)
          · obtain rfl : (undef) = v_ := Lf.v.inj (Option.some.inj (show some (Lf.v (undef)) = some (Lf.v v_) from hi))
            clear hi hl
            have e39 : a_.tmps[39]? = some (.bool false) := hs 4 (by kernel_rfl) _ rfl 39 rfl
            refine ⟨_, rfl, fun KR hKR => ?_⟩
            rw [if_neg (unwanted_of (j := 4) (d := 39) rfl rfl e39 (by simp))]
            exact hKR _ (Below.refl _ _)
          · obtain rfl : (undef) = v_ := Lf.v.inj (Option.some.inj (show some (Lf.v (undef)) = some (Lf.v v_) from hi))
            clear hi hl
            have e39 : a_.tmps[39]? = some (.bool false) := hs 4 (by kernel_rfl) _ rfl 39 rfl
            refine ⟨_, rfl, fun KR hKR => ?_⟩
            rw [if_neg (unwanted_of (j := 4) (d := 39) rfl rfl e39 (by simp))]
            exact hKR _ (Below.refl _ _)
          · obtain rfl : (undef) = v_ := Lf.v.inj (Option.some.inj (show some (Lf.v (undef)) = some (Lf.v v_) from hi))
            clear hi hl
            have e39 : a_.tmps[39]? = some (.bool false) := hs 4 (by kernel_rfl) _ rfl 39 rfl
            refine ⟨_, rfl, fun KR hKR => ?_⟩
            rw [if_neg (unwanted_of (j := 4) (d := 39) rfl rfl e39 (by simp))]
            exact hKR _ (Below.refl _ _)
          · obtain rfl : (undef) = v_ := Lf.v.inj (Option.some.inj (show some (Lf.v (undef)) = some (Lf.v v_) from hi))
            clear hi hl
            have e39 : a_.tmps[39]? = some (.bool false) := hs 4 (by kernel_rfl) _ rfl 39 rfl
            refine ⟨_, rfl, fun KR hKR => ?_⟩
            rw [if_neg (unwanted_of (j := 4) (d := 39) rfl rfl e39 (by simp))]
            exact hKR _ (Below.refl _ _)
          · obtain rfl : (undef) = v_ := Lf.v.inj (Option.some.inj (show some (Lf.v (undef)) = some (Lf.v v_) from hi))
            clear hi hl
            have e39 : a_.tmps[39]? = some (.bool false) := hs 4 (by kernel_rfl) _ rfl 39 rfl
            refine ⟨_, rfl, fun KR hKR => ?_⟩
            rw [if_neg (unwanted_of (j := 4) (d := 39) rfl rfl e39 (by simp))]
            exact hKR _ (Below.refl _ _)
          · obtain rfl : (undef) = v_ := Lf.v.inj (Option.some.inj (show some (Lf.v (undef)) = some (Lf.v v_) from hi))
            clear hi hl
            have e39 : a_.tmps[39]? = some (.bool false) := hs 4 (by kernel_rfl) _ rfl 39 rfl
            refine ⟨_, rfl, fun KR hKR => ?_⟩
            rw [if_neg (unwanted_of (j := 4) (d := 39) rfl rfl e39 (by simp))]
            exact hKR _ (Below.refl _ _)
          · obtain rfl : (undef) = v_ := Lf.v.inj (Option.some.inj (show some (Lf.v (undef)) = some (Lf.v v_) from hi))
            clear hi hl
            have e39 : a_.tmps[39]? = some (.bool false) := hs 4 (by kernel_rfl) _ rfl 39 rfl
            refine ⟨_, rfl, fun KR hKR => ?_⟩
            rw [if_neg (unwanted_of (j := 4) (d := 39) rfl rfl e39 (by simp))]
            exact hKR _ (Below.refl _ _)
          · obtain rfl : (undef) = v_ := Lf.v.inj (Option.some.inj (show some (Lf.v (undef)) = some (Lf.v v_) from hi))
            clear hi hl
            have e39 : a_.tmps[39]? = some (.bool false) := hs 4 (by kernel_rfl) _ rfl 39 rfl
            refine ⟨_, rfl, fun KR hKR => ?_⟩
            rw [if_neg (unwanted_of (j := 4) (d := 39) rfl rfl e39 (by simp))]
            exact hKR _ (Below.refl _ _)
          · obtain rfl : (.bool false) = v_ := Lf.v.inj (Option.some.inj (show some (Lf.v (.bool false)) = some (Lf.v v_) from hi))
            clear hi hl
            have e39 : a_.tmps[39]? = some (.bool false) := hs 4 (by kernel_rfl) _ rfl 39 rfl
            have e47 : a_.tmps[47]? = some (undef) := hs 12 (by kernel_rfl) _ rfl 47 rfl
            refine ⟨_, rfl, fun KR hKR => ?_⟩
            rw [if_pos (show Region.wanted _ _ = true from rfl)]
            clear hs ho
            go_simp
            exact hKR _ (Below.refl _ _)
          · obtain rfl : (.int .i64 (i : Int)) = v_ := Lf.v.inj (Option.some.inj (show some (Lf.v (.int .i64 (i : Int))) = some (Lf.v v_) from hi))
            clear hi hl
            have e35 : a_.tmps[35]? = some (.int .i64 (i : Int)) := hs 0 (by kernel_rfl) _ rfl 35 rfl
            refine ⟨_, rfl, fun KR hKR => ?_⟩
            rw [if_pos (show Region.wanted _ _ = true from rfl)]
            clear hs ho
            go_simp
            exact hKR _ (Below.refl _ _)
          · obtain rfl : (.bool false) = v_ := Lf.v.inj (Option.some.inj (show some (Lf.v (.bool false)) = some (Lf.v v_) from hi))
            clear hi hl
            have e48 : a_.tmps[48]? = some (.bool false) := hs 13 (by kernel_rfl) _ rfl 48 rfl
            refine ⟨_, rfl, fun KR hKR => ?_⟩
            rw [if_pos (show Region.wanted _ _ = true from rfl)]
            clear hs ho
            go_simp
            exact hKR _ (Below.refl _ _)
        · intro i_ T_ Z_ S_ k_ hi a_ W
          have hl := (List.getElem?_eq_some_iff.1 hi).1
          rcases (show i_ = 0 ∨ i_ = 1 ∨ i_ = 2 ∨ i_ = 3 ∨ i_ = 4 ∨ i_ = 5 ∨ i_ = 6 ∨ i_ = 7 ∨ i_ = 8 ∨ i_ = 9 ∨ i_ = 10 ∨ i_ = 11 ∨ i_ = 12 ∨ i_ = 13 ∨ i_ = 14 ∨ i_ = 15 by simp at hl; omega) with rfl | rfl | rfl | rfl | rfl | rfl | rfl | rfl | rfl | rfl | rfl | rfl | rfl | rfl | rfl | rfl
          · exact Lf.noConfusion (Option.some.inj (show some (Lf.v (.int .i64 (i : Int))) = some (Lf.nw T_ Z_ S_ k_) from hi))
          · exact Lf.noConfusion (Option.some.inj (show some (Lf.v (.int .i64 (i : Int))) = some (Lf.nw T_ Z_ S_ k_) from hi))
          · exact Lf.noConfusion (Option.some.inj (show some (Lf.v (.int .i64 (i : Int))) = some (Lf.nw T_ Z_ S_ k_) from hi))
          · exact Lf.noConfusion (Option.some.inj (show some (Lf.v (.bool false)) = some (Lf.nw T_ Z_ S_ k_) from hi))
          · exact Lf.noConfusion (Option.some.inj (show some (Lf.v (.bool false)) = some (Lf.nw T_ Z_ S_ k_) from hi))
          · exact Lf.noConfusion (Option.some.inj (show some (Lf.v (undef)) = some (Lf.nw T_ Z_ S_ k_) from hi))
          · exact Lf.noConfusion (Option.some.inj (show some (Lf.v (undef)) = some (Lf.nw T_ Z_ S_ k_) from hi))
          · exact Lf.noConfusion (Option.some.inj (show some (Lf.v (undef)) = some (Lf.nw T_ Z_ S_ k_) from hi))
          · exact Lf.noConfusion (Option.some.inj (show some (Lf.v (undef)) = some (Lf.nw T_ Z_ S_ k_) from hi))
          · exact Lf.noConfusion (Option.some.inj (show some (Lf.v (undef)) = some (Lf.nw T_ Z_ S_ k_) from hi))
          · exact Lf.noConfusion (Option.some.inj (show some (Lf.v (undef)) = some (Lf.nw T_ Z_ S_ k_) from hi))
          · exact Lf.noConfusion (Option.some.inj (show some (Lf.v (undef)) = some (Lf.nw T_ Z_ S_ k_) from hi))
          · exact Lf.noConfusion (Option.some.inj (show some (Lf.v (undef)) = some (Lf.nw T_ Z_ S_ k_) from hi))
          · exact Lf.noConfusion (Option.some.inj (show some (Lf.v (.bool false)) = some (Lf.nw T_ Z_ S_ k_) from hi))
          · exact Lf.noConfusion (Option.some.inj (show some (Lf.v (.int .i64 (i : Int))) = some (Lf.nw T_ Z_ S_ k_) from hi))
          · exact Lf.noConfusion (Option.some.inj (show some (Lf.v (.bool false)) = some (Lf.nw T_ Z_ S_ k_) from hi))
        · intro i_ m_ T_ Z_ S_ hi hm_ a_ W g_ hp_ hg hs
          have hl := (List.getElem?_eq_some_iff.1 hi).1
          rcases (show i_ = 0 ∨ i_ = 1 ∨ i_ = 2 ∨ i_ = 3 ∨ i_ = 4 ∨ i_ = 5 ∨ i_ = 6 ∨ i_ = 7 ∨ i_ = 8 ∨ i_ = 9 ∨ i_ = 10 ∨ i_ = 11 ∨ i_ = 12 ∨ i_ = 13 ∨ i_ = 14 ∨ i_ = 15 by simp at hl; omega) with rfl | rfl | rfl | rfl | rfl | rfl | rfl | rfl | rfl | rfl | rfl | rfl | rfl | rfl | rfl | rfl
          · exact Lf.noConfusion (Option.some.inj (show some (Lf.v (.int .i64 (i : Int))) = some (Lf.st m_) from hi))
          · exact Lf.noConfusion (Option.some.inj (show some (Lf.v (.int .i64 (i : Int))) = some (Lf.st m_) from hi))
          · exact Lf.noConfusion (Option.some.inj (show some (Lf.v (.int .i64 (i : Int))) = some (Lf.st m_) from hi))
          · exact Lf.noConfusion (Option.some.inj (show some (Lf.v (.bool false)) = some (Lf.st m_) from hi))
          · exact Lf.noConfusion (Option.some.inj (show some (Lf.v (.bool false)) = some (Lf.st m_) from hi))
          · exact Lf.noConfusion (Option.some.inj (show some (Lf.v (undef)) = some (Lf.st m_) from hi))
          · exact Lf.noConfusion (Option.some.inj (show some (Lf.v (undef)) = some (Lf.st m_) from hi))
          · exact Lf.noConfusion (Option.some.inj (show some (Lf.v (undef)) = some (Lf.st m_) from hi))
          · exact Lf.noConfusion (Option.some.inj (show some (Lf.v (undef)) = some (Lf.st m_) from hi))
          · exact Lf.noConfusion (Option.some.inj (show some (Lf.v (undef)) = some (Lf.st m_) from hi))
          · exact Lf.noConfusion (Option.some.inj (show some (Lf.v (undef)) = some (Lf.st m_) from hi))
          · exact Lf.noConfusion (Option.some.inj (show some (Lf.v (undef)) = some (Lf.st m_) from hi))
          · exact Lf.noConfusion (Option.some.inj (show some (Lf.v (undef)) = some (Lf.st m_) from hi))
          · exact Lf.noConfusion (Option.some.inj (show some (Lf.v (.bool false)) = some (Lf.st m_) from hi))
          · exact Lf.noConfusion (Option.some.inj (show some (Lf.v (.int .i64 (i : Int))) = some (Lf.st m_) from hi))
          · exact Lf.noConfusion (Option.some.inj (show some (Lf.v (.bool false)) = some (Lf.st m_) from hi))
        · intro b_ vals_ W hall hI
          have hB := hI.bel
          have v0 : vals_ 0 = .int .i64 (i : Int) := hI.has 0 (Nat.le_of_ble_eq_true rfl) (hall 0 (Nat.le_of_ble_eq_true rfl))
          have v1 : vals_ 1 = .int .i64 (i : Int) := hI.has 1 (Nat.le_of_ble_eq_true rfl) (hall 1 (Nat.le_of_ble_eq_true rfl))
          have v2 : vals_ 2 = .int .i64 (i : Int) := hI.has 2 (Nat.le_of_ble_eq_true rfl) (hall 2 (Nat.le_of_ble_eq_true rfl))
          have v3 : vals_ 3 = .bool false := hI.has 3 (Nat.le_of_ble_eq_true rfl) (hall 3 (Nat.le_of_ble_eq_true rfl))
          have v4 : vals_ 4 = .bool false := hI.has 4 (Nat.le_of_ble_eq_true rfl) (hall 4 (Nat.le_of_ble_eq_true rfl))
          have v5 : vals_ 5 = undef := hI.has 5 (Nat.le_of_ble_eq_true rfl) (hall 5 (Nat.le_of_ble_eq_true rfl))
          have v6 : vals_ 6 = undef := hI.has 6 (Nat.le_of_ble_eq_true rfl) (hall 6 (Nat.le_of_ble_eq_true rfl))
          have v7 : vals_ 7 = undef := hI.has 7 (Nat.le_of_ble_eq_true rfl) (hall 7 (Nat.le_of_ble_eq_true rfl))
          have v8 : vals_ 8 = undef := hI.has 8 (Nat.le_of_ble_eq_true rfl) (hall 8 (Nat.le_of_ble_eq_true rfl))
          have v9 : vals_ 9 = undef := hI.has 9 (Nat.le_of_ble_eq_true rfl) (hall 9 (Nat.le_of_ble_eq_true rfl))
          have v10 : vals_ 10 = undef := hI.has 10 (Nat.le_of_ble_eq_true rfl) (hall 10 (Nat.le_of_ble_eq_true rfl))
          have v11 : vals_ 11 = undef := hI.has 11 (Nat.le_of_ble_eq_true rfl) (hall 11 (Nat.le_of_ble_eq_true rfl))
          have v12 : vals_ 12 = undef := hI.has 12 (Nat.le_of_ble_eq_true rfl) (hall 12 (Nat.le_of_ble_eq_true rfl))
          have v13 : vals_ 13 = .bool false := hI.has 13 (Nat.le_of_ble_eq_true rfl) (hall 13 (Nat.le_of_ble_eq_true rfl))
          have v14 : vals_ 14 = .int .i64 (i : Int) := hI.has 14 (Nat.le_of_ble_eq_true rfl) (hall 14 (Nat.le_of_ble_eq_true rfl))
          have v15 : vals_ 15 = .bool false := hI.has 15 (Nat.le_of_ble_eq_true rfl) (hall 15 (Nat.le_of_ble_eq_true rfl))
          simp only [List.length_cons, List.length_nil, Nat.zero_add, Nat.reduceAdd, List.size_toArray, slots, if_true, dstOf, List.getElem?_toArray, List.getElem?_cons_zero, List.getElem?_cons_succ, Option.bind_some, Act.put, List.setIfInBounds_toArray, List.set_cons_zero, List.set_cons_succ, v0, v1, v2, v3, v4, v5, v6, v7, v8, v9, v10, v11, v12, v13, v14, v15]
          clear hI hall v0 v1 v2 v3 v4 v5 v6 v7 v8 v9 v10 v11 v12 v13 v14 v15
          change wpAny _ _ _ _ 0 _ _ _
          refine wpAny_done (by kernel_rfl) ?_ _
          have HB2 := Lib.hid (bel HB.out hB)
          clear hB
          go_wp2
          go_ret2
          rw [HPL.out, HF.out]
          exact ⟨rfl, bel HW.out HB2.out⟩
theorem place_any (v : Value) (l : List St) (s : St) (w : World) (h : Row2 w v l) (hl : l.length ≤ 1000000) :
    Calls Try.prog 22 #[v, .agg (SS s)] w fun e w' => e = .returned (.tuple #[.int .i64 (if riseB l = true then plc l s else (0 : Nat)), .bool (riseB l && fnd l s)]) ∧ Below w.heap.size w w' := by
  have H := Lib.hid h
  clear h
  go_enter Try.func22, Try.ntmps22
  by_cases q : Rise l
  · have hq := riseB_true q
    have HQ := Lib.hid q
    rw [hq]
    clear q
    go_wp2_with (first
      | (go_at_call 24; refine (rising_any _ l _ (H.out.below (below_alloc (Below.refl _ _) _)) hl).mono ?_; rintro e w1 ⟨rfl, hb⟩; have HB := Lib.hid (bel (below_alloc (Below.refl w.heap.size w) (.cells (SS s) 34)) hb); have HC := Lib.hid (range_below hb (range_of_heap (heap_alloc_new w (.cells (SS s) 34)) 0 (SS s).toList (fun j v hv => by simpa using hv))); rw [hq]; clear hb)
      | (refine wpList_load_mid rfl 34 (.tmp 3) rfl w.heap.size 0 rfl (SS s).toList _ HC.out Try.underlying34 rfl (info34 s) ?_)
      | (go_at_call 38; refine (search_any _ l s _ (H.out.below HB.out) hl HQ.out).mono ?_; rintro e w2 ⟨rfl, hb⟩; have HB2 := Lib.hid (bel HB.out hb); clear hb))
    go_ret2
    exact ⟨rfl, HB2.out⟩
  · have hq := riseB_false q
    rw [hq]
    clear q
    go_wp2_with (go_at_call 24; refine (rising_any _ l _ (H.out.below (below_alloc (Below.refl _ _) _)) hl).mono ?_; rintro e w1 ⟨rfl, hb⟩; have HB := Lib.hid (bel (below_alloc (Below.refl w.heap.size w) (.cells (SS s) 34)) hb); rw [hq]; clear hb)
    go_ret2
    exact ⟨rfl, HB.out⟩
end Go.Proofs.Ytndfoohdoadkfaa
