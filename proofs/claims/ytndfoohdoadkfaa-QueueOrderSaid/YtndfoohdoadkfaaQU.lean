/- Rising. -/
import Derived.Test.YtndfoohdoadkfaaQT
set_option linter.unusedVariables false
set_option linter.unusedSimpArgs false
namespace Go.Proofs.Ytndfoohdoadkfaa
open Go.RowKit
def Rise (l : List St) : Prop := ∀ k a b, l[k]? = some a → l[k + 1]? = some b → cmpS (toI a) (toI b) < 0
noncomputable def riseB (l : List St) : Bool := @decide (Rise l) (Classical.propDecidable _)
theorem riseB_true {l : List St} (h : Rise l) : riseB l = true := @decide_eq_true _ (Classical.propDecidable _) h
theorem riseB_false {l : List St} (h : ¬ Rise l) : riseB l = false := @decide_eq_false _ (Classical.propDecidable _) h
set_option maxRecDepth 10000 in
set_option maxHeartbeats 2000000 in
theorem rising_any (v : Value) (l : List St) (w : World) (h : Row2 w v l) (hl : l.length ≤ 1000000) :
    Calls Try.prog 24 #[v] w fun e w' => e = .returned (.bool (riseB l)) ∧ Below w.heap.size w w' := by
  obtain ⟨A, c, rfl, k1, r1⟩ := h
  obtain ⟨N, hN⟩ : ∃ N, N = l.length := ⟨_, rfl⟩
  have HN := Lib.hid hN
  have R1 := Lib.hid r1
  rw [← hN] at k1 hl ⊢
  clear hN r1
  go_enter Try.func24, Try.ntmps24
  go_wp2
  go_loopw [6] (fun t wr => ∃ (j : Nat), t = .int .i64 j ∧ j ≤ N ∧ Hid (∀ k a b, k + 1 < j → l[k]? = some a → l[k + 1]? = some b → cmpS (toI a) (toI b) < 0) ∧ Hid (Below w.heap.size w wr)) (fun t _ => N - (intOf t).toNat)
  case atStart => exact ⟨0, rfl, by omega, Lib.hid (fun k a b hk => absurd hk (by omega)), Lib.hid (Below.refl _ _)⟩
  case round =>
    obtain ⟨j, rfl, hj, HT, HB⟩ := hrel
    by_cases q2 : j < N
    · cases j with
      | zero =>
        go_wp2
        refine drawn_st (w := wr) ([Lf.v (.int .i64 0), Lf.v (.bool false), Lf.v (.bool false), Lf.v (undef), Lf.v (undef), Lf.v (undef), Lf.v (undef), Lf.v (undef), Lf.v (undef), Lf.v (undef), Lf.v (undef), Lf.v (undef), Lf.v (undef), Lf.v (undef), Lf.v (.bool false)] : List Lf) (by kernel_rfl) (by kernel_rfl) (by kernel_rfl) (by kernel_rfl) ?_ ?_ ?_ ?_
        · intro i_ v_ hi a_ W hs ho hB
          have hl := (List.getElem?_eq_some_iff.1 hi).1
          rcases (show i_ = 0 ∨ i_ = 1 ∨ i_ = 2 ∨ i_ = 3 ∨ i_ = 4 ∨ i_ = 5 ∨ i_ = 6 ∨ i_ = 7 ∨ i_ = 8 ∨ i_ = 9 ∨ i_ = 10 ∨ i_ = 11 ∨ i_ = 12 ∨ i_ = 13 ∨ i_ = 14 by simp at hl; omega) with rfl | rfl | rfl | rfl | rfl | rfl | rfl | rfl | rfl | rfl | rfl | rfl | rfl | rfl | rfl
          · obtain rfl : (.int .i64 0) = v_ := Lf.v.inj (Option.some.inj (show some (Lf.v (.int .i64 0)) = some (Lf.v v_) from hi))
            clear hi hl
            have e3 : a_.tmps[3]? = some (.int .i64 0) := (ho 3 (by kernel_rfl)).trans rfl
            refine ⟨_, rfl, fun KR hKR => ?_⟩
            rw [if_pos (show Region.wanted _ _ = true from rfl)]
            clear hs ho
            go_simp
            exact hKR _ (Below.refl _ _)
          · obtain rfl : (.bool false) = v_ := Lf.v.inj (Option.some.inj (show some (Lf.v (.bool false)) = some (Lf.v v_) from hi))
            clear hi hl
            have e9 : a_.tmps[9]? = some (.int .i64 0) := hs 0 (by kernel_rfl) _ rfl 9 rfl
            refine ⟨_, rfl, fun KR hKR => ?_⟩
            rw [if_pos (show Region.wanted _ _ = true from rfl)]
            clear hs ho
            go_simp
            exact hKR _ (Below.refl _ _)
          · obtain rfl : (.bool false) = v_ := Lf.v.inj (Option.some.inj (show some (Lf.v (.bool false)) = some (Lf.v v_) from hi))
            clear hi hl
            have e10 : a_.tmps[10]? = some (.bool false) := hs 1 (by kernel_rfl) _ rfl 10 rfl
            refine ⟨_, rfl, fun KR hKR => ?_⟩
            rw [if_pos (show Region.wanted _ _ = true from rfl)]
            clear hs ho
            go_simp
            exact hKR _ (Below.refl _ _)
          · obtain rfl : (undef) = v_ := Lf.v.inj (Option.some.inj (show some (Lf.v (undef)) = some (Lf.v v_) from hi))
            clear hi hl
            have e11 : a_.tmps[11]? = some (.bool false) := hs 2 (by kernel_rfl) _ rfl 11 rfl
            refine ⟨_, rfl, fun KR hKR => ?_⟩
            rw [if_neg (unwanted_of (j := 2) (d := 11) rfl rfl e11 (by simp))]
            exact hKR _ (Below.refl _ _)
          · obtain rfl : (undef) = v_ := Lf.v.inj (Option.some.inj (show some (Lf.v (undef)) = some (Lf.v v_) from hi))
            clear hi hl
            have e11 : a_.tmps[11]? = some (.bool false) := hs 2 (by kernel_rfl) _ rfl 11 rfl
            refine ⟨_, rfl, fun KR hKR => ?_⟩
            rw [if_neg (unwanted_of (j := 2) (d := 11) rfl rfl e11 (by simp))]
            exact hKR _ (Below.refl _ _)
          · obtain rfl : (undef) = v_ := Lf.v.inj (Option.some.inj (show some (Lf.v (undef)) = some (Lf.v v_) from hi))
            clear hi hl
            have e11 : a_.tmps[11]? = some (.bool false) := hs 2 (by kernel_rfl) _ rfl 11 rfl
            refine ⟨_, rfl, fun KR hKR => ?_⟩
            rw [if_neg (unwanted_of (j := 2) (d := 11) rfl rfl e11 (by simp))]
            exact hKR _ (Below.refl _ _)
          · obtain rfl : (undef) = v_ := Lf.v.inj (Option.some.inj (show some (Lf.v (undef)) = some (Lf.v v_) from hi))
            clear hi hl
            have e11 : a_.tmps[11]? = some (.bool false) := hs 2 (by kernel_rfl) _ rfl 11 rfl
            refine ⟨_, rfl, fun KR hKR => ?_⟩
            rw [if_neg (unwanted_of (j := 2) (d := 11) rfl rfl e11 (by simp))]
            exact hKR _ (Below.refl _ _)
          · obtain rfl : (undef) = v_ := Lf.v.inj (Option.some.inj (show some (Lf.v (undef)) = some (Lf.v v_) from hi))
            clear hi hl
            have e11 : a_.tmps[11]? = some (.bool false) := hs 2 (by kernel_rfl) _ rfl 11 rfl
            refine ⟨_, rfl, fun KR hKR => ?_⟩
            rw [if_neg (unwanted_of (j := 2) (d := 11) rfl rfl e11 (by simp))]
            exact hKR _ (Below.refl _ _)
          · obtain rfl : (undef) = v_ := Lf.v.inj (Option.some.inj (show some (Lf.v (undef)) = some (Lf.v v_) from hi))
            clear hi hl
            have e11 : a_.tmps[11]? = some (.bool false) := hs 2 (by kernel_rfl) _ rfl 11 rfl
            refine ⟨_, rfl, fun KR hKR => ?_⟩
            rw [if_neg (unwanted_of (j := 2) (d := 11) rfl rfl e11 (by simp))]
            exact hKR _ (Below.refl _ _)
          · obtain rfl : (undef) = v_ := Lf.v.inj (Option.some.inj (show some (Lf.v (undef)) = some (Lf.v v_) from hi))
            clear hi hl
            have e11 : a_.tmps[11]? = some (.bool false) := hs 2 (by kernel_rfl) _ rfl 11 rfl
            refine ⟨_, rfl, fun KR hKR => ?_⟩
            rw [if_neg (unwanted_of (j := 2) (d := 11) rfl rfl e11 (by simp))]
            exact hKR _ (Below.refl _ _)
          · obtain rfl : (undef) = v_ := Lf.v.inj (Option.some.inj (show some (Lf.v (undef)) = some (Lf.v v_) from hi))
            clear hi hl
            have e11 : a_.tmps[11]? = some (.bool false) := hs 2 (by kernel_rfl) _ rfl 11 rfl
            refine ⟨_, rfl, fun KR hKR => ?_⟩
            rw [if_neg (unwanted_of (j := 2) (d := 11) rfl rfl e11 (by simp))]
            exact hKR _ (Below.refl _ _)
          · obtain rfl : (undef) = v_ := Lf.v.inj (Option.some.inj (show some (Lf.v (undef)) = some (Lf.v v_) from hi))
            clear hi hl
            have e11 : a_.tmps[11]? = some (.bool false) := hs 2 (by kernel_rfl) _ rfl 11 rfl
            refine ⟨_, rfl, fun KR hKR => ?_⟩
            rw [if_neg (unwanted_of (j := 2) (d := 11) rfl rfl e11 (by simp))]
            exact hKR _ (Below.refl _ _)
          · obtain rfl : (undef) = v_ := Lf.v.inj (Option.some.inj (show some (Lf.v (undef)) = some (Lf.v v_) from hi))
            clear hi hl
            have e11 : a_.tmps[11]? = some (.bool false) := hs 2 (by kernel_rfl) _ rfl 11 rfl
            refine ⟨_, rfl, fun KR hKR => ?_⟩
            rw [if_neg (unwanted_of (j := 2) (d := 11) rfl rfl e11 (by simp))]
            exact hKR _ (Below.refl _ _)
          · obtain rfl : (undef) = v_ := Lf.v.inj (Option.some.inj (show some (Lf.v (undef)) = some (Lf.v v_) from hi))
            clear hi hl
            have e11 : a_.tmps[11]? = some (.bool false) := hs 2 (by kernel_rfl) _ rfl 11 rfl
            refine ⟨_, rfl, fun KR hKR => ?_⟩
            rw [if_neg (unwanted_of (j := 2) (d := 11) rfl rfl e11 (by simp))]
            exact hKR _ (Below.refl _ _)
          · obtain rfl : (.bool false) = v_ := Lf.v.inj (Option.some.inj (show some (Lf.v (.bool false)) = some (Lf.v v_) from hi))
            clear hi hl
            have e11 : a_.tmps[11]? = some (.bool false) := hs 2 (by kernel_rfl) _ rfl 11 rfl
            have e22 : a_.tmps[22]? = some (undef) := hs 13 (by kernel_rfl) _ rfl 22 rfl
            refine ⟨_, rfl, fun KR hKR => ?_⟩
            rw [if_pos (show Region.wanted _ _ = true from rfl)]
            clear hs ho
            go_simp
            exact hKR _ (Below.refl _ _)
        · intro i_ T_ Z_ S_ k_ hi a_ W
          have hl := (List.getElem?_eq_some_iff.1 hi).1
          rcases (show i_ = 0 ∨ i_ = 1 ∨ i_ = 2 ∨ i_ = 3 ∨ i_ = 4 ∨ i_ = 5 ∨ i_ = 6 ∨ i_ = 7 ∨ i_ = 8 ∨ i_ = 9 ∨ i_ = 10 ∨ i_ = 11 ∨ i_ = 12 ∨ i_ = 13 ∨ i_ = 14 by simp at hl; omega) with rfl | rfl | rfl | rfl | rfl | rfl | rfl | rfl | rfl | rfl | rfl | rfl | rfl | rfl | rfl
          · exact Lf.noConfusion (Option.some.inj (show some (Lf.v (.int .i64 0)) = some (Lf.nw T_ Z_ S_ k_) from hi))
          · exact Lf.noConfusion (Option.some.inj (show some (Lf.v (.bool false)) = some (Lf.nw T_ Z_ S_ k_) from hi))
          · exact Lf.noConfusion (Option.some.inj (show some (Lf.v (.bool false)) = some (Lf.nw T_ Z_ S_ k_) from hi))
          · exact Lf.noConfusion (Option.some.inj (show some (Lf.v (undef)) = some (Lf.nw T_ Z_ S_ k_) from hi))
          · exact Lf.noConfusion (Option.some.inj (show some (Lf.v (undef)) = some (Lf.nw T_ Z_ S_ k_) from hi))
          · exact Lf.noConfusion (Option.some.inj (show some (Lf.v (undef)) = some (Lf.nw T_ Z_ S_ k_) from hi))
          · exact Lf.noConfusion (Option.some.inj (show some (Lf.v (undef)) = some (Lf.nw T_ Z_ S_ k_) from hi))
          · exact Lf.noConfusion (Option.some.inj (show some (Lf.v (undef)) = some (Lf.nw T_ Z_ S_ k_) from hi))
          · exact Lf.noConfusion (Option.some.inj (show some (Lf.v (undef)) = some (Lf.nw T_ Z_ S_ k_) from hi))
          · exact Lf.noConfusion (Option.some.inj (show some (Lf.v (undef)) = some (Lf.nw T_ Z_ S_ k_) from hi))
          · exact Lf.noConfusion (Option.some.inj (show some (Lf.v (undef)) = some (Lf.nw T_ Z_ S_ k_) from hi))
          · exact Lf.noConfusion (Option.some.inj (show some (Lf.v (undef)) = some (Lf.nw T_ Z_ S_ k_) from hi))
          · exact Lf.noConfusion (Option.some.inj (show some (Lf.v (undef)) = some (Lf.nw T_ Z_ S_ k_) from hi))
          · exact Lf.noConfusion (Option.some.inj (show some (Lf.v (undef)) = some (Lf.nw T_ Z_ S_ k_) from hi))
          · exact Lf.noConfusion (Option.some.inj (show some (Lf.v (.bool false)) = some (Lf.nw T_ Z_ S_ k_) from hi))
        · intro i_ m_ T_ Z_ S_ hi hm_ a_ W g_ hp_ hg hs
          have hl := (List.getElem?_eq_some_iff.1 hi).1
          rcases (show i_ = 0 ∨ i_ = 1 ∨ i_ = 2 ∨ i_ = 3 ∨ i_ = 4 ∨ i_ = 5 ∨ i_ = 6 ∨ i_ = 7 ∨ i_ = 8 ∨ i_ = 9 ∨ i_ = 10 ∨ i_ = 11 ∨ i_ = 12 ∨ i_ = 13 ∨ i_ = 14 by simp at hl; omega) with rfl | rfl | rfl | rfl | rfl | rfl | rfl | rfl | rfl | rfl | rfl | rfl | rfl | rfl | rfl
          · exact Lf.noConfusion (Option.some.inj (show some (Lf.v (.int .i64 0)) = some (Lf.st m_) from hi))
          · exact Lf.noConfusion (Option.some.inj (show some (Lf.v (.bool false)) = some (Lf.st m_) from hi))
          · exact Lf.noConfusion (Option.some.inj (show some (Lf.v (.bool false)) = some (Lf.st m_) from hi))
          · exact Lf.noConfusion (Option.some.inj (show some (Lf.v (undef)) = some (Lf.st m_) from hi))
          · exact Lf.noConfusion (Option.some.inj (show some (Lf.v (undef)) = some (Lf.st m_) from hi))
          · exact Lf.noConfusion (Option.some.inj (show some (Lf.v (undef)) = some (Lf.st m_) from hi))
          · exact Lf.noConfusion (Option.some.inj (show some (Lf.v (undef)) = some (Lf.st m_) from hi))
          · exact Lf.noConfusion (Option.some.inj (show some (Lf.v (undef)) = some (Lf.st m_) from hi))
          · exact Lf.noConfusion (Option.some.inj (show some (Lf.v (undef)) = some (Lf.st m_) from hi))
          · exact Lf.noConfusion (Option.some.inj (show some (Lf.v (undef)) = some (Lf.st m_) from hi))
          · exact Lf.noConfusion (Option.some.inj (show some (Lf.v (undef)) = some (Lf.st m_) from hi))
          · exact Lf.noConfusion (Option.some.inj (show some (Lf.v (undef)) = some (Lf.st m_) from hi))
          · exact Lf.noConfusion (Option.some.inj (show some (Lf.v (undef)) = some (Lf.st m_) from hi))
          · exact Lf.noConfusion (Option.some.inj (show some (Lf.v (undef)) = some (Lf.st m_) from hi))
          · exact Lf.noConfusion (Option.some.inj (show some (Lf.v (.bool false)) = some (Lf.st m_) from hi))
        · intro b_ vals_ W hall hI
          have hB := hI.bel
          have v0 : vals_ 0 = .int .i64 0 := hI.has 0 (Nat.le_of_ble_eq_true rfl) (hall 0 (Nat.le_of_ble_eq_true rfl))
          have v1 : vals_ 1 = .bool false := hI.has 1 (Nat.le_of_ble_eq_true rfl) (hall 1 (Nat.le_of_ble_eq_true rfl))
          have v2 : vals_ 2 = .bool false := hI.has 2 (Nat.le_of_ble_eq_true rfl) (hall 2 (Nat.le_of_ble_eq_true rfl))
          have v3 : vals_ 3 = undef := hI.has 3 (Nat.le_of_ble_eq_true rfl) (hall 3 (Nat.le_of_ble_eq_true rfl))
          have v4 : vals_ 4 = undef := hI.has 4 (Nat.le_of_ble_eq_true rfl) (hall 4 (Nat.le_of_ble_eq_true rfl))
          have v5 : vals_ 5 = undef := hI.has 5 (Nat.le_of_ble_eq_true rfl) (hall 5 (Nat.le_of_ble_eq_true rfl))
          have v6 : vals_ 6 = undef := hI.has 6 (Nat.le_of_ble_eq_true rfl) (hall 6 (Nat.le_of_ble_eq_true rfl))
          have v7 : vals_ 7 = undef := hI.has 7 (Nat.le_of_ble_eq_true rfl) (hall 7 (Nat.le_of_ble_eq_true rfl))
          have v8 : vals_ 8 = undef := hI.has 8 (Nat.le_of_ble_eq_true rfl) (hall 8 (Nat.le_of_ble_eq_true rfl))
          have v9 : vals_ 9 = undef := hI.has 9 (Nat.le_of_ble_eq_true rfl) (hall 9 (Nat.le_of_ble_eq_true rfl))
          have v10 : vals_ 10 = undef := hI.has 10 (Nat.le_of_ble_eq_true rfl) (hall 10 (Nat.le_of_ble_eq_true rfl))
          have v11 : vals_ 11 = undef := hI.has 11 (Nat.le_of_ble_eq_true rfl) (hall 11 (Nat.le_of_ble_eq_true rfl))
          have v12 : vals_ 12 = undef := hI.has 12 (Nat.le_of_ble_eq_true rfl) (hall 12 (Nat.le_of_ble_eq_true rfl))
          have v13 : vals_ 13 = undef := hI.has 13 (Nat.le_of_ble_eq_true rfl) (hall 13 (Nat.le_of_ble_eq_true rfl))
          have v14 : vals_ 14 = .bool false := hI.has 14 (Nat.le_of_ble_eq_true rfl) (hall 14 (Nat.le_of_ble_eq_true rfl))
          simp only [List.length_cons, List.length_nil, Nat.zero_add, Nat.reduceAdd, List.size_toArray, slots, if_true, dstOf, List.getElem?_toArray, List.getElem?_cons_zero, List.getElem?_cons_succ, Option.bind_some, Act.put, List.setIfInBounds_toArray, List.set_cons_zero, List.set_cons_succ, v0, v1, v2, v3, v4, v5, v6, v7, v8, v9, v10, v11, v12, v13, v14]
          clear hI hall v0 v1 v2 v3 v4 v5 v6 v7 v8 v9 v10 v11 v12 v13 v14
          change wpAny _ _ _ _ 0 _ _ _
          refine wpAny_done (by kernel_rfl) ?_ _
          have HB2 := Lib.hid (bel HB.out hB)
          clear hB
          go_wp2
          go_roundw
          case rel => exact ⟨1, by go_num, by omega, Lib.hid (fun k a b hk => absurd hk (by omega)), HB2⟩
          case measure =>
            simp [intOf]
            omega
      | succ i =>
        obtain ⟨g, o, rfl, r1⟩ := R1.out (by rw [← HN.out]; omega)
        obtain ⟨a, ha⟩ : ∃ a, l[i]? = some a := ⟨_, List.getElem?_eq_getElem (by rw [← HN.out]; omega)⟩
        obtain ⟨b, hb⟩ : ∃ b, l[i + 1]? = some b := ⟨_, List.getElem?_eq_getElem (by rw [← HN.out]; omega)⟩
        have HX := Lib.hid (range_below HB.out (r1 i a ha))
        have HY := Lib.hid (range_below HB.out (r1 (i + 1) b hb))
        have HXJ := Lib.hid ha
        have HYJ := Lib.hid hb
        obtain ⟨z, hz⟩ : ∃ z, cmpS (toI a) (toI b) = z := ⟨_, rfl⟩
        have HZ := Lib.hid hz
        have hwm : IntKind.i64.wrap (i : Int) = i := IntWalk.i64_in _ (by omega)
        have hgt : (0 : Int) < (i : Int) + 1 := by omega
        have hlt : (i : Int) < (N : Int) := by omega
        have hlt2 : (i : Int) + 1 < (N : Int) := by omega
        clear r1 ha hb hz
        by_cases hz : z < 0
        · have hz1 : ¬ (0 ≤ z) := by omega
          have hz2 : decide (0 ≤ z) = false := decide_eq_false hz1
          go_wp2
          refine drawn_st (w := wr) ([Lf.v (.int .i64 ((i : Int) + 1)), Lf.v (.bool true), Lf.v (.bool true), Lf.v (.slice (some ⟨g, o, none⟩) N c), Lf.v (.int .i64 ((i : Int) + 1)), Lf.v (.int .i64 (i : Int)), Lf.v (.pointer (some ⟨g, o + i * 2, none⟩)), Lf.v (.agg (SS a)), Lf.v (.slice (some ⟨g, o, none⟩) N c), Lf.v (.int .i64 ((i : Int) + 1)), Lf.v (.pointer (some ⟨g, o + (i + 1) * 2, none⟩)), Lf.v (.agg (SS b)), Lf.v (.int .i64 z), Lf.v (.bool false), Lf.v (.bool false)] : List Lf) (by kernel_rfl) (by kernel_rfl) (by kernel_rfl) (by kernel_rfl) ?_ ?_ ?_ ?_
          · intro i_ v_ hi a_ W hs ho hB
            have hl := (List.getElem?_eq_some_iff.1 hi).1
            rcases (show i_ = 0 ∨ i_ = 1 ∨ i_ = 2 ∨ i_ = 3 ∨ i_ = 4 ∨ i_ = 5 ∨ i_ = 6 ∨ i_ = 7 ∨ i_ = 8 ∨ i_ = 9 ∨ i_ = 10 ∨ i_ = 11 ∨ i_ = 12 ∨ i_ = 13 ∨ i_ = 14 by simp at hl; omega) with rfl | rfl | rfl | rfl | rfl | rfl | rfl | rfl | rfl | rfl | rfl | rfl | rfl | rfl | rfl
            · obtain rfl : (.int .i64 ((i : Int) + 1)) = v_ := Lf.v.inj (Option.some.inj (show some (Lf.v (.int .i64 ((i : Int) + 1))) = some (Lf.v v_) from hi))
              clear hi hl
              have e3 : a_.tmps[3]? = some (.int .i64 ((i : Int) + 1)) := (ho 3 (by kernel_rfl)).trans rfl
              refine ⟨_, rfl, fun KR hKR => ?_⟩
              rw [if_pos (show Region.wanted _ _ = true from rfl)]
              clear hs ho
              go_simp
              exact hKR _ (Below.refl _ _)
            · obtain rfl : (.bool true) = v_ := Lf.v.inj (Option.some.inj (show some (Lf.v (.bool true)) = some (Lf.v v_) from hi))
              clear hi hl
              have e9 : a_.tmps[9]? = some (.int .i64 ((i : Int) + 1)) := hs 0 (by kernel_rfl) _ rfl 9 rfl
              refine ⟨_, rfl, fun KR hKR => ?_⟩
              rw [if_pos (show Region.wanted _ _ = true from rfl)]
              clear hs ho
              go_simp
              exact hKR _ (Below.refl _ _)
            · obtain rfl : (.bool true) = v_ := Lf.v.inj (Option.some.inj (show some (Lf.v (.bool true)) = some (Lf.v v_) from hi))
              clear hi hl
              have e10 : a_.tmps[10]? = some (.bool true) := hs 1 (by kernel_rfl) _ rfl 10 rfl
              refine ⟨_, rfl, fun KR hKR => ?_⟩
              rw [if_pos (show Region.wanted _ _ = true from rfl)]
              clear hs ho
              go_simp
              exact hKR _ (Below.refl _ _)
            · obtain rfl : (.slice (some ⟨g, o, none⟩) N c) = v_ := Lf.v.inj (Option.some.inj (show some (Lf.v (.slice (some ⟨g, o, none⟩) N c)) = some (Lf.v v_) from hi))
              clear hi hl
              have e0 : a_.tmps[0]? = some (.slice (some ⟨g, o, none⟩) N c) := (ho 0 (by kernel_rfl)).trans rfl
              have e11 : a_.tmps[11]? = some (.bool true) := hs 2 (by kernel_rfl) _ rfl 11 rfl
              refine ⟨_, rfl, fun KR hKR => ?_⟩
              rw [if_pos (wanted_of (j := 2) (d := 11) rfl rfl e11)]
              clear e11
              clear hs ho
              go_simp
              exact hKR _ (Below.refl _ _)
            · obtain rfl : (.int .i64 ((i : Int) + 1)) = v_ := Lf.v.inj (Option.some.inj (show some (Lf.v (.int .i64 ((i : Int) + 1))) = some (Lf.v v_) from hi))
              clear hi hl
              have e3 : a_.tmps[3]? = some (.int .i64 ((i : Int) + 1)) := (ho 3 (by kernel_rfl)).trans rfl
              have e11 : a_.tmps[11]? = some (.bool true) := hs 2 (by kernel_rfl) _ rfl 11 rfl
              refine ⟨_, rfl, fun KR hKR => ?_⟩
              rw [if_pos (wanted_of (j := 2) (d := 11) rfl rfl e11)]
              clear e11
              clear hs ho
              go_simp
              exact hKR _ (Below.refl _ _)
            · obtain rfl : (.int .i64 (i : Int)) = v_ := Lf.v.inj (Option.some.inj (show some (Lf.v (.int .i64 (i : Int))) = some (Lf.v v_) from hi))
              clear hi hl
              have e13 : a_.tmps[13]? = some (.int .i64 ((i : Int) + 1)) := hs 4 (by kernel_rfl) _ rfl 13 rfl
              have e11 : a_.tmps[11]? = some (.bool true) := hs 2 (by kernel_rfl) _ rfl 11 rfl
              refine ⟨_, rfl, fun KR hKR => ?_⟩
              rw [if_pos (wanted_of (j := 2) (d := 11) rfl rfl e11)]
              clear e11
              clear hs ho
              go_simp
              exact hKR _ (Below.refl _ _)
            · obtain rfl : (.pointer (some ⟨g, o + i * 2, none⟩)) = v_ := Lf.v.inj (Option.some.inj (show some (Lf.v (.pointer (some ⟨g, o + i * 2, none⟩))) = some (Lf.v v_) from hi))
              clear hi hl
              have e12 : a_.tmps[12]? = some (.slice (some ⟨g, o, none⟩) N c) := hs 3 (by kernel_rfl) _ rfl 12 rfl
              have e14 : a_.tmps[14]? = some (.int .i64 (i : Int)) := hs 5 (by kernel_rfl) _ rfl 14 rfl
              have e11 : a_.tmps[11]? = some (.bool true) := hs 2 (by kernel_rfl) _ rfl 11 rfl
              refine ⟨_, rfl, fun KR hKR => ?_⟩
              rw [if_pos (wanted_of (j := 2) (d := 11) rfl rfl e11)]
              clear e11
              clear hs ho
              go_simp
              exact hKR _ (Below.refl _ _)
            · obtain rfl : (.agg (SS a)) = v_ := Lf.v.inj (Option.some.inj (show some (Lf.v (.agg (SS a))) = some (Lf.v v_) from hi))
              clear hi hl
              have e15 : a_.tmps[15]? = some (.pointer (some ⟨g, o + i * 2, none⟩)) := hs 6 (by kernel_rfl) _ rfl 15 rfl
              have e11 : a_.tmps[11]? = some (.bool true) := hs 2 (by kernel_rfl) _ rfl 11 rfl
              refine ⟨_, rfl, fun KR hKR => ?_⟩
              rw [if_pos (wanted_of (j := 2) (d := 11) rfl rfl e11)]
              clear e11
              clear hs ho
              (refine wp_load_mid 34 (.tmp 15) rfl g (o + i * 2) (by simp [Act.eval, e15]) (SS a).toList _ (range_below hB HX.out) Try.underlying34 rfl (info34 _) ?_; exact hKR _ (Below.refl _ _))
            · obtain rfl : (.slice (some ⟨g, o, none⟩) N c) = v_ := Lf.v.inj (Option.some.inj (show some (Lf.v (.slice (some ⟨g, o, none⟩) N c)) = some (Lf.v v_) from hi))
              clear hi hl
              have e0 : a_.tmps[0]? = some (.slice (some ⟨g, o, none⟩) N c) := (ho 0 (by kernel_rfl)).trans rfl
              have e11 : a_.tmps[11]? = some (.bool true) := hs 2 (by kernel_rfl) _ rfl 11 rfl
              refine ⟨_, rfl, fun KR hKR => ?_⟩
              rw [if_pos (wanted_of (j := 2) (d := 11) rfl rfl e11)]
              clear e11
              clear hs ho
              go_simp
              exact hKR _ (Below.refl _ _)
            · obtain rfl : (.int .i64 ((i : Int) + 1)) = v_ := Lf.v.inj (Option.some.inj (show some (Lf.v (.int .i64 ((i : Int) + 1))) = some (Lf.v v_) from hi))
              clear hi hl
              have e3 : a_.tmps[3]? = some (.int .i64 ((i : Int) + 1)) := (ho 3 (by kernel_rfl)).trans rfl
              have e11 : a_.tmps[11]? = some (.bool true) := hs 2 (by kernel_rfl) _ rfl 11 rfl
              refine ⟨_, rfl, fun KR hKR => ?_⟩
              rw [if_pos (wanted_of (j := 2) (d := 11) rfl rfl e11)]
              clear e11
              clear hs ho
              go_simp
              exact hKR _ (Below.refl _ _)
            · obtain rfl : (.pointer (some ⟨g, o + (i + 1) * 2, none⟩)) = v_ := Lf.v.inj (Option.some.inj (show some (Lf.v (.pointer (some ⟨g, o + (i + 1) * 2, none⟩))) = some (Lf.v v_) from hi))
              clear hi hl
              have e17 : a_.tmps[17]? = some (.slice (some ⟨g, o, none⟩) N c) := hs 8 (by kernel_rfl) _ rfl 17 rfl
              have e18 : a_.tmps[18]? = some (.int .i64 ((i : Int) + 1)) := hs 9 (by kernel_rfl) _ rfl 18 rfl
              have e11 : a_.tmps[11]? = some (.bool true) := hs 2 (by kernel_rfl) _ rfl 11 rfl
              refine ⟨_, rfl, fun KR hKR => ?_⟩
              rw [if_pos (wanted_of (j := 2) (d := 11) rfl rfl e11)]
              clear e11
              clear hs ho
              go_simp
              exact hKR _ (Below.refl _ _)
            · obtain rfl : (.agg (SS b)) = v_ := Lf.v.inj (Option.some.inj (show some (Lf.v (.agg (SS b))) = some (Lf.v v_) from hi))
              clear hi hl
              have e19 : a_.tmps[19]? = some (.pointer (some ⟨g, o + (i + 1) * 2, none⟩)) := hs 10 (by kernel_rfl) _ rfl 19 rfl
              have e11 : a_.tmps[11]? = some (.bool true) := hs 2 (by kernel_rfl) _ rfl 11 rfl
              refine ⟨_, rfl, fun KR hKR => ?_⟩
              rw [if_pos (wanted_of (j := 2) (d := 11) rfl rfl e11)]
              clear e11
              clear hs ho
              (refine wp_load_mid 34 (.tmp 19) rfl g (o + (i + 1) * 2) (by simp [Act.eval, e19]) (SS b).toList _ (range_below hB HY.out) Try.underlying34 rfl (info34 _) ?_; exact hKR _ (Below.refl _ _))
            · obtain rfl : (.int .i64 z) = v_ := Lf.v.inj (Option.some.inj (show some (Lf.v (.int .i64 z)) = some (Lf.v v_) from hi))
              clear hi hl
              have e16 : a_.tmps[16]? = some (.agg (SS a)) := hs 7 (by kernel_rfl) _ rfl 16 rfl
              have e20 : a_.tmps[20]? = some (.agg (SS b)) := hs 11 (by kernel_rfl) _ rfl 20 rfl
              have e11 : a_.tmps[11]? = some (.bool true) := hs 2 (by kernel_rfl) _ rfl 11 rfl
              refine ⟨_, rfl, fun KR hKR => ?_⟩
              rw [if_pos (wanted_of (j := 2) (d := 11) rfl rfl e11)]
              clear e11
              clear hs ho
              (go_simp; go_at_call 36; refine (cmp_any (toI a) (toI b) _).mono ?_; rintro e w1 ⟨rfl, hb⟩; rw [HZ.out]; exact hKR _ hb)
            · obtain rfl : (.bool false) = v_ := Lf.v.inj (Option.some.inj (show some (Lf.v (.bool false)) = some (Lf.v v_) from hi))
              clear hi hl
              have e21 : a_.tmps[21]? = some (.int .i64 z) := hs 12 (by kernel_rfl) _ rfl 21 rfl
              have e11 : a_.tmps[11]? = some (.bool true) := hs 2 (by kernel_rfl) _ rfl 11 rfl
              refine ⟨_, rfl, fun KR hKR => ?_⟩
              rw [if_pos (wanted_of (j := 2) (d := 11) rfl rfl e11)]
              clear e11
              clear hs ho
              go_simp
              exact hKR _ (Below.refl _ _)
            · obtain rfl : (.bool false) = v_ := Lf.v.inj (Option.some.inj (show some (Lf.v (.bool false)) = some (Lf.v v_) from hi))
              clear hi hl
              have e11 : a_.tmps[11]? = some (.bool true) := hs 2 (by kernel_rfl) _ rfl 11 rfl
              have e22 : a_.tmps[22]? = some (.bool false) := hs 13 (by kernel_rfl) _ rfl 22 rfl
              refine ⟨_, rfl, fun KR hKR => ?_⟩
              rw [if_pos (show Region.wanted _ _ = true from rfl)]
              clear hs ho
              go_simp
              exact hKR _ (Below.refl _ _)
          · intro i_ T_ Z_ S_ k_ hi a_ W
            have hl := (List.getElem?_eq_some_iff.1 hi).1
            rcases (show i_ = 0 ∨ i_ = 1 ∨ i_ = 2 ∨ i_ = 3 ∨ i_ = 4 ∨ i_ = 5 ∨ i_ = 6 ∨ i_ = 7 ∨ i_ = 8 ∨ i_ = 9 ∨ i_ = 10 ∨ i_ = 11 ∨ i_ = 12 ∨ i_ = 13 ∨ i_ = 14 by simp at hl; omega) with rfl | rfl | rfl | rfl | rfl | rfl | rfl | rfl | rfl | rfl | rfl | rfl | rfl | rfl | rfl
            · exact Lf.noConfusion (Option.some.inj (show some (Lf.v (.int .i64 ((i : Int) + 1))) = some (Lf.nw T_ Z_ S_ k_) from hi))
            · exact Lf.noConfusion (Option.some.inj (show some (Lf.v (.bool true)) = some (Lf.nw T_ Z_ S_ k_) from hi))
            · exact Lf.noConfusion (Option.some.inj (show some (Lf.v (.bool true)) = some (Lf.nw T_ Z_ S_ k_) from hi))
            · exact Lf.noConfusion (Option.some.inj (show some (Lf.v (.slice (some ⟨g, o, none⟩) N c)) = some (Lf.nw T_ Z_ S_ k_) from hi))
            · exact Lf.noConfusion (Option.some.inj (show some (Lf.v (.int .i64 ((i : Int) + 1))) = some (Lf.nw T_ Z_ S_ k_) from hi))
            · exact Lf.noConfusion (Option.some.inj (show some (Lf.v (.int .i64 (i : Int))) = some (Lf.nw T_ Z_ S_ k_) from hi))
            · exact Lf.noConfusion (Option.some.inj (show some (Lf.v (.pointer (some ⟨g, o + i * 2, none⟩))) = some (Lf.nw T_ Z_ S_ k_) from hi))
            · exact Lf.noConfusion (Option.some.inj (show some (Lf.v (.agg (SS a))) = some (Lf.nw T_ Z_ S_ k_) from hi))
            · exact Lf.noConfusion (Option.some.inj (show some (Lf.v (.slice (some ⟨g, o, none⟩) N c)) = some (Lf.nw T_ Z_ S_ k_) from hi))
            · exact Lf.noConfusion (Option.some.inj (show some (Lf.v (.int .i64 ((i : Int) + 1))) = some (Lf.nw T_ Z_ S_ k_) from hi))
            · exact Lf.noConfusion (Option.some.inj (show some (Lf.v (.pointer (some ⟨g, o + (i + 1) * 2, none⟩))) = some (Lf.nw T_ Z_ S_ k_) from hi))
            · exact Lf.noConfusion (Option.some.inj (show some (Lf.v (.agg (SS b))) = some (Lf.nw T_ Z_ S_ k_) from hi))
            · exact Lf.noConfusion (Option.some.inj (show some (Lf.v (.int .i64 z)) = some (Lf.nw T_ Z_ S_ k_) from hi))
            · exact Lf.noConfusion (Option.some.inj (show some (Lf.v (.bool false)) = some (Lf.nw T_ Z_ S_ k_) from hi))
            · exact Lf.noConfusion (Option.some.inj (show some (Lf.v (.bool false)) = some (Lf.nw T_ Z_ S_ k_) from hi))
          · intro i_ m_ T_ Z_ S_ hi hm_ a_ W g_ hp_ hg hs
            have hl := (List.getElem?_eq_some_iff.1 hi).1
            rcases (show i_ = 0 ∨ i_ = 1 ∨ i_ = 2 ∨ i_ = 3 ∨ i_ = 4 ∨ i_ = 5 ∨ i_ = 6 ∨ i_ = 7 ∨ i_ = 8 ∨ i_ = 9 ∨ i_ = 10 ∨ i_ = 11 ∨ i_ = 12 ∨ i_ = 13 ∨ i_ = 14 by simp at hl; omega) with rfl | rfl | rfl | rfl | rfl | rfl | rfl | rfl | rfl | rfl | rfl | rfl | rfl | rfl | rfl
            · exact Lf.noConfusion (Option.some.inj (show some (Lf.v (.int .i64 ((i : Int) + 1))) = some (Lf.st m_) from hi))
            · exact Lf.noConfusion (Option.some.inj (show some (Lf.v (.bool true)) = some (Lf.st m_) from hi))
            · exact Lf.noConfusion (Option.some.inj (show some (Lf.v (.bool true)) = some (Lf.st m_) from hi))
            · exact Lf.noConfusion (Option.some.inj (show some (Lf.v (.slice (some ⟨g, o, none⟩) N c)) = some (Lf.st m_) from hi))
            · exact Lf.noConfusion (Option.some.inj (show some (Lf.v (.int .i64 ((i : Int) + 1))) = some (Lf.st m_) from hi))
            · exact Lf.noConfusion (Option.some.inj (show some (Lf.v (.int .i64 (i : Int))) = some (Lf.st m_) from hi))
            · exact Lf.noConfusion (Option.some.inj (show some (Lf.v (.pointer (some ⟨g, o + i * 2, none⟩))) = some (Lf.st m_) from hi))
            · exact Lf.noConfusion (Option.some.inj (show some (Lf.v (.agg (SS a))) = some (Lf.st m_) from hi))
            · exact Lf.noConfusion (Option.some.inj (show some (Lf.v (.slice (some ⟨g, o, none⟩) N c)) = some (Lf.st m_) from hi))
            · exact Lf.noConfusion (Option.some.inj (show some (Lf.v (.int .i64 ((i : Int) + 1))) = some (Lf.st m_) from hi))
            · exact Lf.noConfusion (Option.some.inj (show some (Lf.v (.pointer (some ⟨g, o + (i + 1) * 2, none⟩))) = some (Lf.st m_) from hi))
            · exact Lf.noConfusion (Option.some.inj (show some (Lf.v (.agg (SS b))) = some (Lf.st m_) from hi))
            · exact Lf.noConfusion (Option.some.inj (show some (Lf.v (.int .i64 z)) = some (Lf.st m_) from hi))
            · exact Lf.noConfusion (Option.some.inj (show some (Lf.v (.bool false)) = some (Lf.st m_) from hi))
            · exact Lf.noConfusion (Option.some.inj (show some (Lf.v (.bool false)) = some (Lf.st m_) from hi))
          · intro b_ vals_ W hall hI
            have hB := hI.bel
            have v0 : vals_ 0 = .int .i64 ((i : Int) + 1) := hI.has 0 (Nat.le_of_ble_eq_true rfl) (hall 0 (Nat.le_of_ble_eq_true rfl))
            have v1 : vals_ 1 = .bool true := hI.has 1 (Nat.le_of_ble_eq_true rfl) (hall 1 (Nat.le_of_ble_eq_true rfl))
            have v2 : vals_ 2 = .bool true := hI.has 2 (Nat.le_of_ble_eq_true rfl) (hall 2 (Nat.le_of_ble_eq_true rfl))
            have v3 : vals_ 3 = .slice (some ⟨g, o, none⟩) N c := hI.has 3 (Nat.le_of_ble_eq_true rfl) (hall 3 (Nat.le_of_ble_eq_true rfl))
            have v4 : vals_ 4 = .int .i64 ((i : Int) + 1) := hI.has 4 (Nat.le_of_ble_eq_true rfl) (hall 4 (Nat.le_of_ble_eq_true rfl))
            have v5 : vals_ 5 = .int .i64 (i : Int) := hI.has 5 (Nat.le_of_ble_eq_true rfl) (hall 5 (Nat.le_of_ble_eq_true rfl))
            have v6 : vals_ 6 = .pointer (some ⟨g, o + i * 2, none⟩) := hI.has 6 (Nat.le_of_ble_eq_true rfl) (hall 6 (Nat.le_of_ble_eq_true rfl))
            have v7 : vals_ 7 = .agg (SS a) := hI.has 7 (Nat.le_of_ble_eq_true rfl) (hall 7 (Nat.le_of_ble_eq_true rfl))
            have v8 : vals_ 8 = .slice (some ⟨g, o, none⟩) N c := hI.has 8 (Nat.le_of_ble_eq_true rfl) (hall 8 (Nat.le_of_ble_eq_true rfl))
            have v9 : vals_ 9 = .int .i64 ((i : Int) + 1) := hI.has 9 (Nat.le_of_ble_eq_true rfl) (hall 9 (Nat.le_of_ble_eq_true rfl))
            have v10 : vals_ 10 = .pointer (some ⟨g, o + (i + 1) * 2, none⟩) := hI.has 10 (Nat.le_of_ble_eq_true rfl) (hall 10 (Nat.le_of_ble_eq_true rfl))
            have v11 : vals_ 11 = .agg (SS b) := hI.has 11 (Nat.le_of_ble_eq_true rfl) (hall 11 (Nat.le_of_ble_eq_true rfl))
            have v12 : vals_ 12 = .int .i64 z := hI.has 12 (Nat.le_of_ble_eq_true rfl) (hall 12 (Nat.le_of_ble_eq_true rfl))
            have v13 : vals_ 13 = .bool false := hI.has 13 (Nat.le_of_ble_eq_true rfl) (hall 13 (Nat.le_of_ble_eq_true rfl))
            have v14 : vals_ 14 = .bool false := hI.has 14 (Nat.le_of_ble_eq_true rfl) (hall 14 (Nat.le_of_ble_eq_true rfl))
            simp only [List.length_cons, List.length_nil, Nat.zero_add, Nat.reduceAdd, List.size_toArray, slots, if_true, dstOf, List.getElem?_toArray, List.getElem?_cons_zero, List.getElem?_cons_succ, Option.bind_some, Act.put, List.setIfInBounds_toArray, List.set_cons_zero, List.set_cons_succ, v0, v1, v2, v3, v4, v5, v6, v7, v8, v9, v10, v11, v12, v13, v14]
            clear hI hall v0 v1 v2 v3 v4 v5 v6 v7 v8 v9 v10 v11 v12 v13 v14
            change wpAny _ _ _ _ 0 _ _ _
            refine wpAny_done (by kernel_rfl) ?_ _
            have HB2 := Lib.hid (bel HB.out hB)
            clear hB
            go_wp2
            go_roundw
            case rel =>
              refine ⟨i + 1 + 1, by go_num, by omega, Lib.hid ?_, HB2⟩
              intro k a' b' hk h1 h2
              by_cases q : k = i
              · subst q
                obtain rfl := Option.some.inj (HXJ.out.symm.trans h1)
                obtain rfl := Option.some.inj (HYJ.out.symm.trans h2)
                rw [HZ.out]
                exact hz
              · exact HT.out k a' b' (by omega) h1 h2
            case measure =>
              simp [intOf]
              omega
        · have hz1 : 0 ≤ z := by omega
          have hz2 : decide (0 ≤ z) = true := decide_eq_true hz1
          go_wp2
          refine drawn_st (w := wr) ([Lf.v (.int .i64 ((i : Int) + 1)), Lf.v (.bool true), Lf.v (.bool true), Lf.v (.slice (some ⟨g, o, none⟩) N c), Lf.v (.int .i64 ((i : Int) + 1)), Lf.v (.int .i64 (i : Int)), Lf.v (.pointer (some ⟨g, o + i * 2, none⟩)), Lf.v (.agg (SS a)), Lf.v (.slice (some ⟨g, o, none⟩) N c), Lf.v (.int .i64 ((i : Int) + 1)), Lf.v (.pointer (some ⟨g, o + (i + 1) * 2, none⟩)), Lf.v (.agg (SS b)), Lf.v (.int .i64 z), Lf.v (.bool true), Lf.v (.bool true)] : List Lf) (by kernel_rfl) (by kernel_rfl) (by kernel_rfl) (by kernel_rfl) ?_ ?_ ?_ ?_
          · intro i_ v_ hi a_ W hs ho hB
            have hl := (List.getElem?_eq_some_iff.1 hi).1
            rcases (show i_ = 0 ∨ i_ = 1 ∨ i_ = 2 ∨ i_ = 3 ∨ i_ = 4 ∨ i_ = 5 ∨ i_ = 6 ∨ i_ = 7 ∨ i_ = 8 ∨ i_ = 9 ∨ i_ = 10 ∨ i_ = 11 ∨ i_ = 12 ∨ i_ = 13 ∨ i_ = 14 by simp at hl; omega) with rfl | rfl | rfl | rfl | rfl | rfl | rfl | rfl | rfl | rfl | rfl | rfl | rfl | rfl | rfl
            · obtain rfl : (.int .i64 ((i : Int) + 1)) = v_ := Lf.v.inj (Option.some.inj (show some (Lf.v (.int .i64 ((i : Int) + 1))) = some (Lf.v v_) from hi))
              clear hi hl
              have e3 : a_.tmps[3]? = some (.int .i64 ((i : Int) + 1)) := (ho 3 (by kernel_rfl)).trans rfl
              refine ⟨_, rfl, fun KR hKR => ?_⟩
              rw [if_pos (show Region.wanted _ _ = true from rfl)]
              clear hs ho
              go_simp
              exact hKR _ (Below.refl _ _)
            · obtain rfl : (.bool true) = v_ := Lf.v.inj (Option.some.inj (show some (Lf.v (.bool true)) = some (Lf.v v_) from hi))
              clear hi hl
              have e9 : a_.tmps[9]? = some (.int .i64 ((i : Int) + 1)) := hs 0 (by kernel_rfl) _ rfl 9 rfl
              refine ⟨_, rfl, fun KR hKR => ?_⟩
              rw [if_pos (show Region.wanted _ _ = true from rfl)]
              clear hs ho
              go_simp
              exact hKR _ (Below.refl _ _)
            · obtain rfl : (.bool true) = v_ := Lf.v.inj (Option.some.inj (show some (Lf.v (.bool true)) = some (Lf.v v_) from hi))
              clear hi hl
              have e10 : a_.tmps[10]? = some (.bool true) := hs 1 (by kernel_rfl) _ rfl 10 rfl
              refine ⟨_, rfl, fun KR hKR => ?_⟩
              rw [if_pos (show Region.wanted _ _ = true from rfl)]
              clear hs ho
              go_simp
              exact hKR _ (Below.refl _ _)
            · obtain rfl : (.slice (some ⟨g, o, none⟩) N c) = v_ := Lf.v.inj (Option.some.inj (show some (Lf.v (.slice (some ⟨g, o, none⟩) N c)) = some (Lf.v v_) from hi))
              clear hi hl
              have e0 : a_.tmps[0]? = some (.slice (some ⟨g, o, none⟩) N c) := (ho 0 (by kernel_rfl)).trans rfl
              have e11 : a_.tmps[11]? = some (.bool true) := hs 2 (by kernel_rfl) _ rfl 11 rfl
              refine ⟨_, rfl, fun KR hKR => ?_⟩
              rw [if_pos (wanted_of (j := 2) (d := 11) rfl rfl e11)]
              clear e11
              clear hs ho
              go_simp
              exact hKR _ (Below.refl _ _)
            · obtain rfl : (.int .i64 ((i : Int) + 1)) = v_ := Lf.v.inj (Option.some.inj (show some (Lf.v (.int .i64 ((i : Int) + 1))) = some (Lf.v v_) from hi))
              clear hi hl
              have e3 : a_.tmps[3]? = some (.int .i64 ((i : Int) + 1)) := (ho 3 (by kernel_rfl)).trans rfl
              have e11 : a_.tmps[11]? = some (.bool true) := hs 2 (by kernel_rfl) _ rfl 11 rfl
              refine ⟨_, rfl, fun KR hKR => ?_⟩
              rw [if_pos (wanted_of (j := 2) (d := 11) rfl rfl e11)]
              clear e11
              clear hs ho
              go_simp
              exact hKR _ (Below.refl _ _)
            · obtain rfl : (.int .i64 (i : Int)) = v_ := Lf.v.inj (Option.some.inj (show some (Lf.v (.int .i64 (i : Int))) = some (Lf.v v_) from hi))
              clear hi hl
              have e13 : a_.tmps[13]? = some (.int .i64 ((i : Int) + 1)) := hs 4 (by kernel_rfl) _ rfl 13 rfl
              have e11 : a_.tmps[11]? = some (.bool true) := hs 2 (by kernel_rfl) _ rfl 11 rfl
              refine ⟨_, rfl, fun KR hKR => ?_⟩
              rw [if_pos (wanted_of (j := 2) (d := 11) rfl rfl e11)]
              clear e11
              clear hs ho
              go_simp
              exact hKR _ (Below.refl _ _)
            · obtain rfl : (.pointer (some ⟨g, o + i * 2, none⟩)) = v_ := Lf.v.inj (Option.some.inj (show some (Lf.v (.pointer (some ⟨g, o + i * 2, none⟩))) = some (Lf.v v_) from hi))
              clear hi hl
              have e12 : a_.tmps[12]? = some (.slice (some ⟨g, o, none⟩) N c) := hs 3 (by kernel_rfl) _ rfl 12 rfl
              have e14 : a_.tmps[14]? = some (.int .i64 (i : Int)) := hs 5 (by kernel_rfl) _ rfl 14 rfl
              have e11 : a_.tmps[11]? = some (.bool true) := hs 2 (by kernel_rfl) _ rfl 11 rfl
              refine ⟨_, rfl, fun KR hKR => ?_⟩
              rw [if_pos (wanted_of (j := 2) (d := 11) rfl rfl e11)]
              clear e11
              clear hs ho
              go_simp
              exact hKR _ (Below.refl _ _)
            · obtain rfl : (.agg (SS a)) = v_ := Lf.v.inj (Option.some.inj (show some (Lf.v (.agg (SS a))) = some (Lf.v v_) from hi))
              clear hi hl
              have e15 : a_.tmps[15]? = some (.pointer (some ⟨g, o + i * 2, none⟩)) := hs 6 (by kernel_rfl) _ rfl 15 rfl
              have e11 : a_.tmps[11]? = some (.bool true) := hs 2 (by kernel_rfl) _ rfl 11 rfl
              refine ⟨_, rfl, fun KR hKR => ?_⟩
              rw [if_pos (wanted_of (j := 2) (d := 11) rfl rfl e11)]
              clear e11
              clear hs ho
              (refine wp_load_mid 34 (.tmp 15) rfl g (o + i * 2) (by simp [Act.eval, e15]) (SS a).toList _ (range_below hB HX.out) Try.underlying34 rfl (info34 _) ?_; exact hKR _ (Below.refl _ _))
            · obtain rfl : (.slice (some ⟨g, o, none⟩) N c) = v_ := Lf.v.inj (Option.some.inj (show some (Lf.v (.slice (some ⟨g, o, none⟩) N c)) = some (Lf.v v_) from hi))
              clear hi hl
              have e0 : a_.tmps[0]? = some (.slice (some ⟨g, o, none⟩) N c) := (ho 0 (by kernel_rfl)).trans rfl
              have e11 : a_.tmps[11]? = some (.bool true) := hs 2 (by kernel_rfl) _ rfl 11 rfl
              refine ⟨_, rfl, fun KR hKR => ?_⟩
              rw [if_pos (wanted_of (j := 2) (d := 11) rfl rfl e11)]
              clear e11
              clear hs ho
              go_simp
              exact hKR _ (Below.refl _ _)
            · obtain rfl : (.int .i64 ((i : Int) + 1)) = v_ := Lf.v.inj (Option.some.inj (show some (Lf.v (.int .i64 ((i : Int) + 1))) = some (Lf.v v_) from hi))
              clear hi hl
              have e3 : a_.tmps[3]? = some (.int .i64 ((i : Int) + 1)) := (ho 3 (by kernel_rfl)).trans rfl
              have e11 : a_.tmps[11]? = some (.bool true) := hs 2 (by kernel_rfl) _ rfl 11 rfl
              refine ⟨_, rfl, fun KR hKR => ?_⟩
              rw [if_pos (wanted_of (j := 2) (d := 11) rfl rfl e11)]
              clear e11
              clear hs ho
              go_simp
              exact hKR _ (Below.refl _ _)
            · obtain rfl : (.pointer (some ⟨g, o + (i + 1) * 2, none⟩)) = v_ := Lf.v.inj (Option.some.inj (show some (Lf.v (.pointer (some ⟨g, o + (i + 1) * 2, none⟩))) = some (Lf.v v_) from hi))
              clear hi hl
              have e17 : a_.tmps[17]? = some (.slice (some ⟨g, o, none⟩) N c) := hs 8 (by kernel_rfl) _ rfl 17 rfl
              have e18 : a_.tmps[18]? = some (.int .i64 ((i : Int) + 1)) := hs 9 (by kernel_rfl) _ rfl 18 rfl
              have e11 : a_.tmps[11]? = some (.bool true) := hs 2 (by kernel_rfl) _ rfl 11 rfl
              refine ⟨_, rfl, fun KR hKR => ?_⟩
              rw [if_pos (wanted_of (j := 2) (d := 11) rfl rfl e11)]
              clear e11
              clear hs ho
              go_simp
              exact hKR _ (Below.refl _ _)
            · obtain rfl : (.agg (SS b)) = v_ := Lf.v.inj (Option.some.inj (show some (Lf.v (.agg (SS b))) = some (Lf.v v_) from hi))
              clear hi hl
              have e19 : a_.tmps[19]? = some (.pointer (some ⟨g, o + (i + 1) * 2, none⟩)) := hs 10 (by kernel_rfl) _ rfl 19 rfl
              have e11 : a_.tmps[11]? = some (.bool true) := hs 2 (by kernel_rfl) _ rfl 11 rfl
              refine ⟨_, rfl, fun KR hKR => ?_⟩
              rw [if_pos (wanted_of (j := 2) (d := 11) rfl rfl e11)]
              clear e11
              clear hs ho
              (refine wp_load_mid 34 (.tmp 19) rfl g (o + (i + 1) * 2) (by simp [Act.eval, e19]) (SS b).toList _ (range_below hB HY.out) Try.underlying34 rfl (info34 _) ?_; exact hKR _ (Below.refl _ _))
            · obtain rfl : (.int .i64 z) = v_ := Lf.v.inj (Option.some.inj (show some (Lf.v (.int .i64 z)) = some (Lf.v v_) from hi))
              clear hi hl
              have e16 : a_.tmps[16]? = some (.agg (SS a)) := hs 7 (by kernel_rfl) _ rfl 16 rfl
              have e20 : a_.tmps[20]? = some (.agg (SS b)) := hs 11 (by kernel_rfl) _ rfl 20 rfl
              have e11 : a_.tmps[11]? = some (.bool true) := hs 2 (by kernel_rfl) _ rfl 11 rfl
              refine ⟨_, rfl, fun KR hKR => ?_⟩
              rw [if_pos (wanted_of (j := 2) (d := 11) rfl rfl e11)]
              clear e11
              clear hs ho
              (go_simp; go_at_call 36; refine (cmp_any (toI a) (toI b) _).mono ?_; rintro e w1 ⟨rfl, hb⟩; rw [HZ.out]; exact hKR _ hb)
            · obtain rfl : (.bool true) = v_ := Lf.v.inj (Option.some.inj (show some (Lf.v (.bool true)) = some (Lf.v v_) from hi))
              clear hi hl
              have e21 : a_.tmps[21]? = some (.int .i64 z) := hs 12 (by kernel_rfl) _ rfl 21 rfl
              have e11 : a_.tmps[11]? = some (.bool true) := hs 2 (by kernel_rfl) _ rfl 11 rfl
              refine ⟨_, rfl, fun KR hKR => ?_⟩
              rw [if_pos (wanted_of (j := 2) (d := 11) rfl rfl e11)]
              clear e11
              clear hs ho
              go_simp
              exact hKR _ (Below.refl _ _)
            · obtain rfl : (.bool true) = v_ := Lf.v.inj (Option.some.inj (show some (Lf.v (.bool true)) = some (Lf.v v_) from hi))
              clear hi hl
              have e11 : a_.tmps[11]? = some (.bool true) := hs 2 (by kernel_rfl) _ rfl 11 rfl
              have e22 : a_.tmps[22]? = some (.bool true) := hs 13 (by kernel_rfl) _ rfl 22 rfl
              refine ⟨_, rfl, fun KR hKR => ?_⟩
              rw [if_pos (show Region.wanted _ _ = true from rfl)]
              clear hs ho
              go_simp
              exact hKR _ (Below.refl _ _)
          · intro i_ T_ Z_ S_ k_ hi a_ W
            have hl := (List.getElem?_eq_some_iff.1 hi).1
            rcases (show i_ = 0 ∨ i_ = 1 ∨ i_ = 2 ∨ i_ = 3 ∨ i_ = 4 ∨ i_ = 5 ∨ i_ = 6 ∨ i_ = 7 ∨ i_ = 8 ∨ i_ = 9 ∨ i_ = 10 ∨ i_ = 11 ∨ i_ = 12 ∨ i_ = 13 ∨ i_ = 14 by simp at hl; omega) with rfl | rfl | rfl | rfl | rfl | rfl | rfl | rfl | rfl | rfl | rfl | rfl | rfl | rfl | rfl
            · exact Lf.noConfusion (Option.some.inj (show some (Lf.v (.int .i64 ((i : Int) + 1))) = some (Lf.nw T_ Z_ S_ k_) from hi))
            · exact Lf.noConfusion (Option.some.inj (show some (Lf.v (.bool true)) = some (Lf.nw T_ Z_ S_ k_) from hi))
            · exact Lf.noConfusion (Option.some.inj (show some (Lf.v (.bool true)) = some (Lf.nw T_ Z_ S_ k_) from hi))
            · exact Lf.noConfusion (Option.some.inj (show some (Lf.v (.slice (some ⟨g, o, none⟩) N c)) = some (Lf.nw T_ Z_ S_ k_) from hi))
            · exact Lf.noConfusion (Option.some.inj (show some (Lf.v (.int .i64 ((i : Int) + 1))) = some (Lf.nw T_ Z_ S_ k_) from hi))
            · exact Lf.noConfusion (Option.some.inj (show some (Lf.v (.int .i64 (i : Int))) = some (Lf.nw T_ Z_ S_ k_) from hi))
            · exact Lf.noConfusion (Option.some.inj (show some (Lf.v (.pointer (some ⟨g, o + i * 2, none⟩))) = some (Lf.nw T_ Z_ S_ k_) from hi))
            · exact Lf.noConfusion (Option.some.inj (show some (Lf.v (.agg (SS a))) = some (Lf.nw T_ Z_ S_ k_) from hi))
            · exact Lf.noConfusion (Option.some.inj (show some (Lf.v (.slice (some ⟨g, o, none⟩) N c)) = some (Lf.nw T_ Z_ S_ k_) from hi))
            · exact Lf.noConfusion (Option.some.inj (show some (Lf.v (.int .i64 ((i : Int) + 1))) = some (Lf.nw T_ Z_ S_ k_) from hi))
            · exact Lf.noConfusion (Option.some.inj (show some (Lf.v (.pointer (some ⟨g, o + (i + 1) * 2, none⟩))) = some (Lf.nw T_ Z_ S_ k_) from hi))
            · exact Lf.noConfusion (Option.some.inj (show some (Lf.v (.agg (SS b))) = some (Lf.nw T_ Z_ S_ k_) from hi))
            · exact Lf.noConfusion (Option.some.inj (show some (Lf.v (.int .i64 z)) = some (Lf.nw T_ Z_ S_ k_) from hi))
            · exact Lf.noConfusion (Option.some.inj (show some (Lf.v (.bool true)) = some (Lf.nw T_ Z_ S_ k_) from hi))
            · exact Lf.noConfusion (Option.some.inj (show some (Lf.v (.bool true)) = some (Lf.nw T_ Z_ S_ k_) from hi))
          · intro i_ m_ T_ Z_ S_ hi hm_ a_ W g_ hp_ hg hs
            have hl := (List.getElem?_eq_some_iff.1 hi).1
            rcases (show i_ = 0 ∨ i_ = 1 ∨ i_ = 2 ∨ i_ = 3 ∨ i_ = 4 ∨ i_ = 5 ∨ i_ = 6 ∨ i_ = 7 ∨ i_ = 8 ∨ i_ = 9 ∨ i_ = 10 ∨ i_ = 11 ∨ i_ = 12 ∨ i_ = 13 ∨ i_ = 14 by simp at hl; omega) with rfl | rfl | rfl | rfl | rfl | rfl | rfl | rfl | rfl | rfl | rfl | rfl | rfl | rfl | rfl
            · exact Lf.noConfusion (Option.some.inj (show some (Lf.v (.int .i64 ((i : Int) + 1))) = some (Lf.st m_) from hi))
            · exact Lf.noConfusion (Option.some.inj (show some (Lf.v (.bool true)) = some (Lf.st m_) from hi))
            · exact Lf.noConfusion (Option.some.inj (show some (Lf.v (.bool true)) = some (Lf.st m_) from hi))
            · exact Lf.noConfusion (Option.some.inj (show some (Lf.v (.slice (some ⟨g, o, none⟩) N c)) = some (Lf.st m_) from hi))
            · exact Lf.noConfusion (Option.some.inj (show some (Lf.v (.int .i64 ((i : Int) + 1))) = some (Lf.st m_) from hi))
            · exact Lf.noConfusion (Option.some.inj (show some (Lf.v (.int .i64 (i : Int))) = some (Lf.st m_) from hi))
            · exact Lf.noConfusion (Option.some.inj (show some (Lf.v (.pointer (some ⟨g, o + i * 2, none⟩))) = some (Lf.st m_) from hi))
            · exact Lf.noConfusion (Option.some.inj (show some (Lf.v (.agg (SS a))) = some (Lf.st m_) from hi))
            · exact Lf.noConfusion (Option.some.inj (show some (Lf.v (.slice (some ⟨g, o, none⟩) N c)) = some (Lf.st m_) from hi))
            · exact Lf.noConfusion (Option.some.inj (show some (Lf.v (.int .i64 ((i : Int) + 1))) = some (Lf.st m_) from hi))
            · exact Lf.noConfusion (Option.some.inj (show some (Lf.v (.pointer (some ⟨g, o + (i + 1) * 2, none⟩))) = some (Lf.st m_) from hi))
            · exact Lf.noConfusion (Option.some.inj (show some (Lf.v (.agg (SS b))) = some (Lf.st m_) from hi))
            · exact Lf.noConfusion (Option.some.inj (show some (Lf.v (.int .i64 z)) = some (Lf.st m_) from hi))
            · exact Lf.noConfusion (Option.some.inj (show some (Lf.v (.bool true)) = some (Lf.st m_) from hi))
            · exact Lf.noConfusion (Option.some.inj (show some (Lf.v (.bool true)) = some (Lf.st m_) from hi))
          · intro b_ vals_ W hall hI
            have hB := hI.bel
            have v0 : vals_ 0 = .int .i64 ((i : Int) + 1) := hI.has 0 (Nat.le_of_ble_eq_true rfl) (hall 0 (Nat.le_of_ble_eq_true rfl))
            have v1 : vals_ 1 = .bool true := hI.has 1 (Nat.le_of_ble_eq_true rfl) (hall 1 (Nat.le_of_ble_eq_true rfl))
            have v2 : vals_ 2 = .bool true := hI.has 2 (Nat.le_of_ble_eq_true rfl) (hall 2 (Nat.le_of_ble_eq_true rfl))
            have v3 : vals_ 3 = .slice (some ⟨g, o, none⟩) N c := hI.has 3 (Nat.le_of_ble_eq_true rfl) (hall 3 (Nat.le_of_ble_eq_true rfl))
            have v4 : vals_ 4 = .int .i64 ((i : Int) + 1) := hI.has 4 (Nat.le_of_ble_eq_true rfl) (hall 4 (Nat.le_of_ble_eq_true rfl))
            have v5 : vals_ 5 = .int .i64 (i : Int) := hI.has 5 (Nat.le_of_ble_eq_true rfl) (hall 5 (Nat.le_of_ble_eq_true rfl))
            have v6 : vals_ 6 = .pointer (some ⟨g, o + i * 2, none⟩) := hI.has 6 (Nat.le_of_ble_eq_true rfl) (hall 6 (Nat.le_of_ble_eq_true rfl))
            have v7 : vals_ 7 = .agg (SS a) := hI.has 7 (Nat.le_of_ble_eq_true rfl) (hall 7 (Nat.le_of_ble_eq_true rfl))
            have v8 : vals_ 8 = .slice (some ⟨g, o, none⟩) N c := hI.has 8 (Nat.le_of_ble_eq_true rfl) (hall 8 (Nat.le_of_ble_eq_true rfl))
            have v9 : vals_ 9 = .int .i64 ((i : Int) + 1) := hI.has 9 (Nat.le_of_ble_eq_true rfl) (hall 9 (Nat.le_of_ble_eq_true rfl))
            have v10 : vals_ 10 = .pointer (some ⟨g, o + (i + 1) * 2, none⟩) := hI.has 10 (Nat.le_of_ble_eq_true rfl) (hall 10 (Nat.le_of_ble_eq_true rfl))
            have v11 : vals_ 11 = .agg (SS b) := hI.has 11 (Nat.le_of_ble_eq_true rfl) (hall 11 (Nat.le_of_ble_eq_true rfl))
            have v12 : vals_ 12 = .int .i64 z := hI.has 12 (Nat.le_of_ble_eq_true rfl) (hall 12 (Nat.le_of_ble_eq_true rfl))
            have v13 : vals_ 13 = .bool true := hI.has 13 (Nat.le_of_ble_eq_true rfl) (hall 13 (Nat.le_of_ble_eq_true rfl))
            have v14 : vals_ 14 = .bool true := hI.has 14 (Nat.le_of_ble_eq_true rfl) (hall 14 (Nat.le_of_ble_eq_true rfl))
            simp only [List.length_cons, List.length_nil, Nat.zero_add, Nat.reduceAdd, List.size_toArray, slots, if_true, dstOf, List.getElem?_toArray, List.getElem?_cons_zero, List.getElem?_cons_succ, Option.bind_some, Act.put, List.setIfInBounds_toArray, List.set_cons_zero, List.set_cons_succ, v0, v1, v2, v3, v4, v5, v6, v7, v8, v9, v10, v11, v12, v13, v14]
            clear hI hall v0 v1 v2 v3 v4 v5 v6 v7 v8 v9 v10 v11 v12 v13 v14
            change wpAny _ _ _ _ 0 _ _ _
            refine wpAny_done (by kernel_rfl) ?_ _
            have HB2 := Lib.hid (bel HB.out hB)
            clear hB
            go_wp2
            go_ret
            refine ⟨?_, HB2.out⟩
            rw [riseB_false (fun e => by have h := e i a b HXJ.out HYJ.out; rw [HZ.out] at h; omega)]
            rfl
    · obtain rfl : j = N := by omega
      go_wp2
      go_ret
      refine ⟨?_, HB.out⟩
      rw [riseB_true (fun k a b ha hb => HT.out k a b (by have := (List.getElem?_eq_some_iff.1 hb).1; rw [HN.out]; exact this) ha hb)]
      rfl
end Go.Proofs.Ytndfoohdoadkfaa
