/- The law's Same. -/
import Derived.Test.YtndfoohdoadkfaaQE
set_option linter.unusedVariables false
set_option linter.unusedSimpArgs false
namespace Go.Proofs.Ytndfoohdoadkfaa
open Go.RowKit
theorem take_eq_snoc {α : Type} {a b : List α} {j : Nat} {x : α} (h : a.take j = b.take j) (hx : a[j]? = some x) (hy : b[j]? = some x) : a.take (j + 1) = b.take (j + 1) := by
  obtain ⟨h1, e1⟩ := List.getElem?_eq_some_iff.1 hx
  obtain ⟨h2, e2⟩ := List.getElem?_eq_some_iff.1 hy
  rw [List.take_succ_eq_append_getElem h1, List.take_succ_eq_append_getElem h2, h, e1, e2]
set_option maxRecDepth 10000 in
set_option maxHeartbeats 2000000 in
theorem same_any (v1 v2 : Value) (a b : List St) (w : World) (h1 : Row2 w v1 a) (h2 : Row2 w v2 b) (hl : a.length ≤ 1000000) (hl2 : b.length ≤ 1000000) :
    Calls Try.prog 20 #[v1, v2] w fun e w' => e = .returned (.bool (decide (a = b))) ∧ Below w.heap.size w w' := by
  obtain ⟨A1, c1, rfl, k1, r1⟩ := h1
  obtain ⟨A2, c2, rfl, k2, r2⟩ := h2
  obtain ⟨N, hN⟩ : ∃ N, N = a.length := ⟨_, rfl⟩
  obtain ⟨M, hM⟩ : ∃ M, M = b.length := ⟨_, rfl⟩
  have HN := Lib.hid hN
  have HM := Lib.hid hM
  have R1 := Lib.hid r1
  have R2 := Lib.hid r2
  rw [← hN] at k1 hl ⊢
  rw [← hM] at k2 hl2 ⊢
  clear hN hM r1 r2
  go_enter Try.func20, Try.ntmps20
  by_cases q : N = M
  · subst q
    go_wp2
    go_loopw [5] (fun t wr => ∃ (j : Nat), t = .int .i64 j ∧ j ≤ N ∧ Hid (a.take j = b.take j) ∧ Hid (Below w.heap.size w wr)) (fun t _ => N - (intOf t).toNat)
    case atStart => exact ⟨0, rfl, by omega, Lib.hid rfl, Lib.hid (Below.refl _ _)⟩
    case round =>
      obtain ⟨j, rfl, hj, HT, HB⟩ := hrel
      by_cases q2 : j < N
      · obtain ⟨g1, o1, rfl, r1⟩ := R1.out (by rw [← HN.out]; omega)
        obtain ⟨g2, o2, rfl, r2⟩ := R2.out (by rw [← HM.out]; omega)
        obtain ⟨x, hx⟩ : ∃ x, a[j]? = some x := ⟨_, List.getElem?_eq_getElem (by rw [← HN.out]; exact q2)⟩
        obtain ⟨y, hy⟩ : ∃ y, b[j]? = some y := ⟨_, List.getElem?_eq_getElem (by rw [← HM.out]; exact q2)⟩
        have HX := Lib.hid (range_below HB.out (r1 j x hx))
        have HY := Lib.hid (range_below HB.out (r2 j y hy))
        have HXJ := Lib.hid hx
        have HYJ := Lib.hid hy
        clear r1 r2 hx hy
        go_wp2
        by_cases hxy : x = y
        · subst hxy
          refine drawn_st (w := wr) ([Lf.v (.slice (some ⟨g1, o1, none⟩) N c1), Lf.v (.int .i64 (j : Int)), Lf.v (.pointer (some ⟨g1, o1 + j * 2, none⟩)), Lf.v (.agg (SS x)), Lf.v (.slice (some ⟨g2, o2, none⟩) N c2), Lf.v (.int .i64 (j : Int)), Lf.v (.pointer (some ⟨g2, o2 + j * 2, none⟩)), Lf.v (.agg (SS x)), Lf.v (.bool false)] : List Lf) (by kernel_rfl) (by kernel_rfl) (by kernel_rfl) (by kernel_rfl) ?_ ?_ ?_ ?_
          · intro i_ v_ hi a_ W hs ho hB
            have hl := (List.getElem?_eq_some_iff.1 hi).1
            rcases (show i_ = 0 ∨ i_ = 1 ∨ i_ = 2 ∨ i_ = 3 ∨ i_ = 4 ∨ i_ = 5 ∨ i_ = 6 ∨ i_ = 7 ∨ i_ = 8 by simp at hl; omega) with rfl | rfl | rfl | rfl | rfl | rfl | rfl | rfl | rfl
            · obtain rfl : (.slice (some ⟨g1, o1, none⟩) N c1) = v_ := Lf.v.inj (Option.some.inj (show some (Lf.v (.slice (some ⟨g1, o1, none⟩) N c1)) = some (Lf.v v_) from hi))
              clear hi hl
              have e0 : a_.tmps[0]? = some (.slice (some ⟨g1, o1, none⟩) N c1) := (ho 0 (by kernel_rfl)).trans rfl
              refine ⟨_, rfl, fun KR hKR => ?_⟩
              rw [if_pos (show Region.wanted _ _ = true from rfl)]
              clear hs ho
              go_simp
              exact hKR _ (Below.refl _ _)
            · obtain rfl : (.int .i64 (j : Int)) = v_ := Lf.v.inj (Option.some.inj (show some (Lf.v (.int .i64 (j : Int))) = some (Lf.v v_) from hi))
              clear hi hl
              have e5 : a_.tmps[5]? = some (.int .i64 (j : Int)) := (ho 5 (by kernel_rfl)).trans rfl
              refine ⟨_, rfl, fun KR hKR => ?_⟩
              rw [if_pos (show Region.wanted _ _ = true from rfl)]
              clear hs ho
              go_simp
              exact hKR _ (Below.refl _ _)
            · obtain rfl : (.pointer (some ⟨g1, o1 + j * 2, none⟩)) = v_ := Lf.v.inj (Option.some.inj (show some (Lf.v (.pointer (some ⟨g1, o1 + j * 2, none⟩))) = some (Lf.v v_) from hi))
              clear hi hl
              have e17 : a_.tmps[17]? = some (.slice (some ⟨g1, o1, none⟩) N c1) := hs 0 (by kernel_rfl) _ rfl 17 rfl
              have e18 : a_.tmps[18]? = some (.int .i64 (j : Int)) := hs 1 (by kernel_rfl) _ rfl 18 rfl
              refine ⟨_, rfl, fun KR hKR => ?_⟩
              rw [if_pos (show Region.wanted _ _ = true from rfl)]
              clear hs ho
              go_simp
              exact hKR _ (Below.refl _ _)
            · obtain rfl : (.agg (SS x)) = v_ := Lf.v.inj (Option.some.inj (show some (Lf.v (.agg (SS x))) = some (Lf.v v_) from hi))
              clear hi hl
              have e19 : a_.tmps[19]? = some (.pointer (some ⟨g1, o1 + j * 2, none⟩)) := hs 2 (by kernel_rfl) _ rfl 19 rfl
              refine ⟨_, rfl, fun KR hKR => ?_⟩
              rw [if_pos (show Region.wanted _ _ = true from rfl)]
              clear hs ho
              (refine wp_load_mid 34 (.tmp 19) rfl g1 (o1 + j * 2) (by simp [Act.eval, e19]) (SS x).toList _ (range_below hB HX.out) Try.underlying34 rfl (info34 _) ?_; exact hKR _ (Below.refl _ _))
            · obtain rfl : (.slice (some ⟨g2, o2, none⟩) N c2) = v_ := Lf.v.inj (Option.some.inj (show some (Lf.v (.slice (some ⟨g2, o2, none⟩) N c2)) = some (Lf.v v_) from hi))
              clear hi hl
              have e1 : a_.tmps[1]? = some (.slice (some ⟨g2, o2, none⟩) N c2) := (ho 1 (by kernel_rfl)).trans rfl
              refine ⟨_, rfl, fun KR hKR => ?_⟩
              rw [if_pos (show Region.wanted _ _ = true from rfl)]
              clear hs ho
              go_simp
              exact hKR _ (Below.refl _ _)
            · obtain rfl : (.int .i64 (j : Int)) = v_ := Lf.v.inj (Option.some.inj (show some (Lf.v (.int .i64 (j : Int))) = some (Lf.v v_) from hi))
              clear hi hl
              have e5 : a_.tmps[5]? = some (.int .i64 (j : Int)) := (ho 5 (by kernel_rfl)).trans rfl
              refine ⟨_, rfl, fun KR hKR => ?_⟩
              rw [if_pos (show Region.wanted _ _ = true from rfl)]
              clear hs ho
              go_simp
              exact hKR _ (Below.refl _ _)
            · obtain rfl : (.pointer (some ⟨g2, o2 + j * 2, none⟩)) = v_ := Lf.v.inj (Option.some.inj (show some (Lf.v (.pointer (some ⟨g2, o2 + j * 2, none⟩))) = some (Lf.v v_) from hi))
              clear hi hl
              have e21 : a_.tmps[21]? = some (.slice (some ⟨g2, o2, none⟩) N c2) := hs 4 (by kernel_rfl) _ rfl 21 rfl
              have e22 : a_.tmps[22]? = some (.int .i64 (j : Int)) := hs 5 (by kernel_rfl) _ rfl 22 rfl
              refine ⟨_, rfl, fun KR hKR => ?_⟩
              rw [if_pos (show Region.wanted _ _ = true from rfl)]
              clear hs ho
              go_simp
              exact hKR _ (Below.refl _ _)
            · obtain rfl : (.agg (SS x)) = v_ := Lf.v.inj (Option.some.inj (show some (Lf.v (.agg (SS x))) = some (Lf.v v_) from hi))
              clear hi hl
              have e23 : a_.tmps[23]? = some (.pointer (some ⟨g2, o2 + j * 2, none⟩)) := hs 6 (by kernel_rfl) _ rfl 23 rfl
              refine ⟨_, rfl, fun KR hKR => ?_⟩
              rw [if_pos (show Region.wanted _ _ = true from rfl)]
              clear hs ho
              (refine wp_load_mid 34 (.tmp 23) rfl g2 (o2 + j * 2) (by simp [Act.eval, e23]) (SS x).toList _ (range_below hB HY.out) Try.underlying34 rfl (info34 _) ?_; exact hKR _ (Below.refl _ _))
            · obtain rfl : (.bool false) = v_ := Lf.v.inj (Option.some.inj (show some (Lf.v (.bool false)) = some (Lf.v v_) from hi))
              clear hi hl
              have e20 : a_.tmps[20]? = some (.agg (SS x)) := hs 3 (by kernel_rfl) _ rfl 20 rfl
              have e24 : a_.tmps[24]? = some (.agg (SS x)) := hs 7 (by kernel_rfl) _ rfl 24 rfl
              refine ⟨_, rfl, fun KR hKR => ?_⟩
              rw [if_pos (show Region.wanted _ _ = true from rfl)]
              clear hs ho
              (refine wp_of_run (exec_neq34s (p := x) (q := x) rfl (by simp [Act.eval, e20]) (by simp [Act.eval, e24]) rfl) ?_; exact hKR _ (Below.refl _ _))
          · intro i_ T_ Z_ S_ k_ hi a_ W
            have hl := (List.getElem?_eq_some_iff.1 hi).1
            rcases (show i_ = 0 ∨ i_ = 1 ∨ i_ = 2 ∨ i_ = 3 ∨ i_ = 4 ∨ i_ = 5 ∨ i_ = 6 ∨ i_ = 7 ∨ i_ = 8 by simp at hl; omega) with rfl | rfl | rfl | rfl | rfl | rfl | rfl | rfl | rfl
            · exact Lf.noConfusion (Option.some.inj (show some (Lf.v (.slice (some ⟨g1, o1, none⟩) N c1)) = some (Lf.nw T_ Z_ S_ k_) from hi))
            · exact Lf.noConfusion (Option.some.inj (show some (Lf.v (.int .i64 (j : Int))) = some (Lf.nw T_ Z_ S_ k_) from hi))
            · exact Lf.noConfusion (Option.some.inj (show some (Lf.v (.pointer (some ⟨g1, o1 + j * 2, none⟩))) = some (Lf.nw T_ Z_ S_ k_) from hi))
            · exact Lf.noConfusion (Option.some.inj (show some (Lf.v (.agg (SS x))) = some (Lf.nw T_ Z_ S_ k_) from hi))
            · exact Lf.noConfusion (Option.some.inj (show some (Lf.v (.slice (some ⟨g2, o2, none⟩) N c2)) = some (Lf.nw T_ Z_ S_ k_) from hi))
            · exact Lf.noConfusion (Option.some.inj (show some (Lf.v (.int .i64 (j : Int))) = some (Lf.nw T_ Z_ S_ k_) from hi))
            · exact Lf.noConfusion (Option.some.inj (show some (Lf.v (.pointer (some ⟨g2, o2 + j * 2, none⟩))) = some (Lf.nw T_ Z_ S_ k_) from hi))
            · exact Lf.noConfusion (Option.some.inj (show some (Lf.v (.agg (SS x))) = some (Lf.nw T_ Z_ S_ k_) from hi))
            · exact Lf.noConfusion (Option.some.inj (show some (Lf.v (.bool false)) = some (Lf.nw T_ Z_ S_ k_) from hi))
          · intro i_ m_ T_ Z_ S_ hi hm_ a_ W g_ hp_ hg hs
            have hl := (List.getElem?_eq_some_iff.1 hi).1
            rcases (show i_ = 0 ∨ i_ = 1 ∨ i_ = 2 ∨ i_ = 3 ∨ i_ = 4 ∨ i_ = 5 ∨ i_ = 6 ∨ i_ = 7 ∨ i_ = 8 by simp at hl; omega) with rfl | rfl | rfl | rfl | rfl | rfl | rfl | rfl | rfl
            · exact Lf.noConfusion (Option.some.inj (show some (Lf.v (.slice (some ⟨g1, o1, none⟩) N c1)) = some (Lf.st m_) from hi))
            · exact Lf.noConfusion (Option.some.inj (show some (Lf.v (.int .i64 (j : Int))) = some (Lf.st m_) from hi))
            · exact Lf.noConfusion (Option.some.inj (show some (Lf.v (.pointer (some ⟨g1, o1 + j * 2, none⟩))) = some (Lf.st m_) from hi))
            · exact Lf.noConfusion (Option.some.inj (show some (Lf.v (.agg (SS x))) = some (Lf.st m_) from hi))
            · exact Lf.noConfusion (Option.some.inj (show some (Lf.v (.slice (some ⟨g2, o2, none⟩) N c2)) = some (Lf.st m_) from hi))
            · exact Lf.noConfusion (Option.some.inj (show some (Lf.v (.int .i64 (j : Int))) = some (Lf.st m_) from hi))
            · exact Lf.noConfusion (Option.some.inj (show some (Lf.v (.pointer (some ⟨g2, o2 + j * 2, none⟩))) = some (Lf.st m_) from hi))
            · exact Lf.noConfusion (Option.some.inj (show some (Lf.v (.agg (SS x))) = some (Lf.st m_) from hi))
            · exact Lf.noConfusion (Option.some.inj (show some (Lf.v (.bool false)) = some (Lf.st m_) from hi))
          · intro b_ vals_ W hall hI
            have hB := hI.bel
            have v0 : vals_ 0 = .slice (some ⟨g1, o1, none⟩) N c1 := hI.has 0 (Nat.le_of_ble_eq_true rfl) (hall 0 (Nat.le_of_ble_eq_true rfl))
            have v1 : vals_ 1 = .int .i64 (j : Int) := hI.has 1 (Nat.le_of_ble_eq_true rfl) (hall 1 (Nat.le_of_ble_eq_true rfl))
            have v2 : vals_ 2 = .pointer (some ⟨g1, o1 + j * 2, none⟩) := hI.has 2 (Nat.le_of_ble_eq_true rfl) (hall 2 (Nat.le_of_ble_eq_true rfl))
            have v3 : vals_ 3 = .agg (SS x) := hI.has 3 (Nat.le_of_ble_eq_true rfl) (hall 3 (Nat.le_of_ble_eq_true rfl))
            have v4 : vals_ 4 = .slice (some ⟨g2, o2, none⟩) N c2 := hI.has 4 (Nat.le_of_ble_eq_true rfl) (hall 4 (Nat.le_of_ble_eq_true rfl))
            have v5 : vals_ 5 = .int .i64 (j : Int) := hI.has 5 (Nat.le_of_ble_eq_true rfl) (hall 5 (Nat.le_of_ble_eq_true rfl))
            have v6 : vals_ 6 = .pointer (some ⟨g2, o2 + j * 2, none⟩) := hI.has 6 (Nat.le_of_ble_eq_true rfl) (hall 6 (Nat.le_of_ble_eq_true rfl))
            have v7 : vals_ 7 = .agg (SS x) := hI.has 7 (Nat.le_of_ble_eq_true rfl) (hall 7 (Nat.le_of_ble_eq_true rfl))
            have v8 : vals_ 8 = .bool false := hI.has 8 (Nat.le_of_ble_eq_true rfl) (hall 8 (Nat.le_of_ble_eq_true rfl))
            simp only [List.length_cons, List.length_nil, Nat.zero_add, Nat.reduceAdd, List.size_toArray, slots, if_true, dstOf, List.getElem?_toArray, List.getElem?_cons_zero, List.getElem?_cons_succ, Option.bind_some, Act.put, List.setIfInBounds_toArray, List.set_cons_zero, List.set_cons_succ, v0, v1, v2, v3, v4, v5, v6, v7, v8]
            clear hI hall v0 v1 v2 v3 v4 v5 v6 v7 v8
            change wpAny _ _ _ _ 0 _ _ _
            refine wpAny_done (by kernel_rfl) ?_ _
            have HB2 := Lib.hid (bel HB.out hB)
            clear hB
            go_wp2
            go_roundw
            case rel => exact ⟨j + 1, by go_num, by omega, Lib.hid (take_eq_snoc HT.out HXJ.out HYJ.out), HB2⟩
            case measure =>
              simp [intOf]
              omega
        · have hd : decide (x = y) = false := decide_eq_false hxy
          have HNE := Lib.hid hxy
          clear hxy
          refine drawn_st (w := wr) ([Lf.v (.slice (some ⟨g1, o1, none⟩) N c1), Lf.v (.int .i64 (j : Int)), Lf.v (.pointer (some ⟨g1, o1 + j * 2, none⟩)), Lf.v (.agg (SS x)), Lf.v (.slice (some ⟨g2, o2, none⟩) N c2), Lf.v (.int .i64 (j : Int)), Lf.v (.pointer (some ⟨g2, o2 + j * 2, none⟩)), Lf.v (.agg (SS y)), Lf.v (.bool true)] : List Lf) (by kernel_rfl) (by kernel_rfl) (by kernel_rfl) (by kernel_rfl) ?_ ?_ ?_ ?_
          · intro i_ v_ hi a_ W hs ho hB
            have hl := (List.getElem?_eq_some_iff.1 hi).1
            rcases (show i_ = 0 ∨ i_ = 1 ∨ i_ = 2 ∨ i_ = 3 ∨ i_ = 4 ∨ i_ = 5 ∨ i_ = 6 ∨ i_ = 7 ∨ i_ = 8 by simp at hl; omega) with rfl | rfl | rfl | rfl | rfl | rfl | rfl | rfl | rfl
            · obtain rfl : (.slice (some ⟨g1, o1, none⟩) N c1) = v_ := Lf.v.inj (Option.some.inj (show some (Lf.v (.slice (some ⟨g1, o1, none⟩) N c1)) = some (Lf.v v_) from hi))
              clear hi hl
              have e0 : a_.tmps[0]? = some (.slice (some ⟨g1, o1, none⟩) N c1) := (ho 0 (by kernel_rfl)).trans rfl
              refine ⟨_, rfl, fun KR hKR => ?_⟩
              rw [if_pos (show Region.wanted _ _ = true from rfl)]
              clear hs ho
              go_simp
              exact hKR _ (Below.refl _ _)
            · obtain rfl : (.int .i64 (j : Int)) = v_ := Lf.v.inj (Option.some.inj (show some (Lf.v (.int .i64 (j : Int))) = some (Lf.v v_) from hi))
              clear hi hl
              have e5 : a_.tmps[5]? = some (.int .i64 (j : Int)) := (ho 5 (by kernel_rfl)).trans rfl
              refine ⟨_, rfl, fun KR hKR => ?_⟩
              rw [if_pos (show Region.wanted _ _ = true from rfl)]
              clear hs ho
              go_simp
              exact hKR _ (Below.refl _ _)
            · obtain rfl : (.pointer (some ⟨g1, o1 + j * 2, none⟩)) = v_ := Lf.v.inj (Option.some.inj (show some (Lf.v (.pointer (some ⟨g1, o1 + j * 2, none⟩))) = some (Lf.v v_) from hi))
              clear hi hl
              have e17 : a_.tmps[17]? = some (.slice (some ⟨g1, o1, none⟩) N c1) := hs 0 (by kernel_rfl) _ rfl 17 rfl
              have e18 : a_.tmps[18]? = some (.int .i64 (j : Int)) := hs 1 (by kernel_rfl) _ rfl 18 rfl
              refine ⟨_, rfl, fun KR hKR => ?_⟩
              rw [if_pos (show Region.wanted _ _ = true from rfl)]
              clear hs ho
              go_simp
              exact hKR _ (Below.refl _ _)
            · obtain rfl : (.agg (SS x)) = v_ := Lf.v.inj (Option.some.inj (show some (Lf.v (.agg (SS x))) = some (Lf.v v_) from hi))
              clear hi hl
              have e19 : a_.tmps[19]? = some (.pointer (some ⟨g1, o1 + j * 2, none⟩)) := hs 2 (by kernel_rfl) _ rfl 19 rfl
              refine ⟨_, rfl, fun KR hKR => ?_⟩
              rw [if_pos (show Region.wanted _ _ = true from rfl)]
              clear hs ho
              (refine wp_load_mid 34 (.tmp 19) rfl g1 (o1 + j * 2) (by simp [Act.eval, e19]) (SS x).toList _ (range_below hB HX.out) Try.underlying34 rfl (info34 _) ?_; exact hKR _ (Below.refl _ _))
            · obtain rfl : (.slice (some ⟨g2, o2, none⟩) N c2) = v_ := Lf.v.inj (Option.some.inj (show some (Lf.v (.slice (some ⟨g2, o2, none⟩) N c2)) = some (Lf.v v_) from hi))
              clear hi hl
              have e1 : a_.tmps[1]? = some (.slice (some ⟨g2, o2, none⟩) N c2) := (ho 1 (by kernel_rfl)).trans rfl
              refine ⟨_, rfl, fun KR hKR => ?_⟩
              rw [if_pos (show Region.wanted _ _ = true from rfl)]
              clear hs ho
              go_simp
              exact hKR _ (Below.refl _ _)
            · obtain rfl : (.int .i64 (j : Int)) = v_ := Lf.v.inj (Option.some.inj (show some (Lf.v (.int .i64 (j : Int))) = some (Lf.v v_) from hi))
              clear hi hl
              have e5 : a_.tmps[5]? = some (.int .i64 (j : Int)) := (ho 5 (by kernel_rfl)).trans rfl
              refine ⟨_, rfl, fun KR hKR => ?_⟩
              rw [if_pos (show Region.wanted _ _ = true from rfl)]
              clear hs ho
              go_simp
              exact hKR _ (Below.refl _ _)
            · obtain rfl : (.pointer (some ⟨g2, o2 + j * 2, none⟩)) = v_ := Lf.v.inj (Option.some.inj (show some (Lf.v (.pointer (some ⟨g2, o2 + j * 2, none⟩))) = some (Lf.v v_) from hi))
              clear hi hl
              have e21 : a_.tmps[21]? = some (.slice (some ⟨g2, o2, none⟩) N c2) := hs 4 (by kernel_rfl) _ rfl 21 rfl
              have e22 : a_.tmps[22]? = some (.int .i64 (j : Int)) := hs 5 (by kernel_rfl) _ rfl 22 rfl
              refine ⟨_, rfl, fun KR hKR => ?_⟩
              rw [if_pos (show Region.wanted _ _ = true from rfl)]
              clear hs ho
              go_simp
              exact hKR _ (Below.refl _ _)
            · obtain rfl : (.agg (SS y)) = v_ := Lf.v.inj (Option.some.inj (show some (Lf.v (.agg (SS y))) = some (Lf.v v_) from hi))
              clear hi hl
              have e23 : a_.tmps[23]? = some (.pointer (some ⟨g2, o2 + j * 2, none⟩)) := hs 6 (by kernel_rfl) _ rfl 23 rfl
              refine ⟨_, rfl, fun KR hKR => ?_⟩
              rw [if_pos (show Region.wanted _ _ = true from rfl)]
              clear hs ho
              (refine wp_load_mid 34 (.tmp 23) rfl g2 (o2 + j * 2) (by simp [Act.eval, e23]) (SS y).toList _ (range_below hB HY.out) Try.underlying34 rfl (info34 _) ?_; exact hKR _ (Below.refl _ _))
            · obtain rfl : (.bool true) = v_ := Lf.v.inj (Option.some.inj (show some (Lf.v (.bool true)) = some (Lf.v v_) from hi))
              clear hi hl
              have e20 : a_.tmps[20]? = some (.agg (SS x)) := hs 3 (by kernel_rfl) _ rfl 20 rfl
              have e24 : a_.tmps[24]? = some (.agg (SS y)) := hs 7 (by kernel_rfl) _ rfl 24 rfl
              refine ⟨_, rfl, fun KR hKR => ?_⟩
              rw [if_pos (show Region.wanted _ _ = true from rfl)]
              clear hs ho
              (refine wp_of_run (exec_neq34d (p := x) (q := y) rfl (by simp [Act.eval, e20]) (by simp [Act.eval, e24]) hd) ?_; exact hKR _ (Below.refl _ _))
          · intro i_ T_ Z_ S_ k_ hi a_ W
            have hl := (List.getElem?_eq_some_iff.1 hi).1
            rcases (show i_ = 0 ∨ i_ = 1 ∨ i_ = 2 ∨ i_ = 3 ∨ i_ = 4 ∨ i_ = 5 ∨ i_ = 6 ∨ i_ = 7 ∨ i_ = 8 by simp at hl; omega) with rfl | rfl | rfl | rfl | rfl | rfl | rfl | rfl | rfl
            · exact Lf.noConfusion (Option.some.inj (show some (Lf.v (.slice (some ⟨g1, o1, none⟩) N c1)) = some (Lf.nw T_ Z_ S_ k_) from hi))
            · exact Lf.noConfusion (Option.some.inj (show some (Lf.v (.int .i64 (j : Int))) = some (Lf.nw T_ Z_ S_ k_) from hi))
            · exact Lf.noConfusion (Option.some.inj (show some (Lf.v (.pointer (some ⟨g1, o1 + j * 2, none⟩))) = some (Lf.nw T_ Z_ S_ k_) from hi))
            · exact Lf.noConfusion (Option.some.inj (show some (Lf.v (.agg (SS x))) = some (Lf.nw T_ Z_ S_ k_) from hi))
            · exact Lf.noConfusion (Option.some.inj (show some (Lf.v (.slice (some ⟨g2, o2, none⟩) N c2)) = some (Lf.nw T_ Z_ S_ k_) from hi))
            · exact Lf.noConfusion (Option.some.inj (show some (Lf.v (.int .i64 (j : Int))) = some (Lf.nw T_ Z_ S_ k_) from hi))
            · exact Lf.noConfusion (Option.some.inj (show some (Lf.v (.pointer (some ⟨g2, o2 + j * 2, none⟩))) = some (Lf.nw T_ Z_ S_ k_) from hi))
            · exact Lf.noConfusion (Option.some.inj (show some (Lf.v (.agg (SS y))) = some (Lf.nw T_ Z_ S_ k_) from hi))
            · exact Lf.noConfusion (Option.some.inj (show some (Lf.v (.bool true)) = some (Lf.nw T_ Z_ S_ k_) from hi))
          · intro i_ m_ T_ Z_ S_ hi hm_ a_ W g_ hp_ hg hs
            have hl := (List.getElem?_eq_some_iff.1 hi).1
            rcases (show i_ = 0 ∨ i_ = 1 ∨ i_ = 2 ∨ i_ = 3 ∨ i_ = 4 ∨ i_ = 5 ∨ i_ = 6 ∨ i_ = 7 ∨ i_ = 8 by simp at hl; omega) with rfl | rfl | rfl | rfl | rfl | rfl | rfl | rfl | rfl
            · exact Lf.noConfusion (Option.some.inj (show some (Lf.v (.slice (some ⟨g1, o1, none⟩) N c1)) = some (Lf.st m_) from hi))
            · exact Lf.noConfusion (Option.some.inj (show some (Lf.v (.int .i64 (j : Int))) = some (Lf.st m_) from hi))
            · exact Lf.noConfusion (Option.some.inj (show some (Lf.v (.pointer (some ⟨g1, o1 + j * 2, none⟩))) = some (Lf.st m_) from hi))
            · exact Lf.noConfusion (Option.some.inj (show some (Lf.v (.agg (SS x))) = some (Lf.st m_) from hi))
            · exact Lf.noConfusion (Option.some.inj (show some (Lf.v (.slice (some ⟨g2, o2, none⟩) N c2)) = some (Lf.st m_) from hi))
            · exact Lf.noConfusion (Option.some.inj (show some (Lf.v (.int .i64 (j : Int))) = some (Lf.st m_) from hi))
            · exact Lf.noConfusion (Option.some.inj (show some (Lf.v (.pointer (some ⟨g2, o2 + j * 2, none⟩))) = some (Lf.st m_) from hi))
            · exact Lf.noConfusion (Option.some.inj (show some (Lf.v (.agg (SS y))) = some (Lf.st m_) from hi))
            · exact Lf.noConfusion (Option.some.inj (show some (Lf.v (.bool true)) = some (Lf.st m_) from hi))
          · intro b_ vals_ W hall hI
            have hB := hI.bel
            have v0 : vals_ 0 = .slice (some ⟨g1, o1, none⟩) N c1 := hI.has 0 (Nat.le_of_ble_eq_true rfl) (hall 0 (Nat.le_of_ble_eq_true rfl))
            have v1 : vals_ 1 = .int .i64 (j : Int) := hI.has 1 (Nat.le_of_ble_eq_true rfl) (hall 1 (Nat.le_of_ble_eq_true rfl))
            have v2 : vals_ 2 = .pointer (some ⟨g1, o1 + j * 2, none⟩) := hI.has 2 (Nat.le_of_ble_eq_true rfl) (hall 2 (Nat.le_of_ble_eq_true rfl))
            have v3 : vals_ 3 = .agg (SS x) := hI.has 3 (Nat.le_of_ble_eq_true rfl) (hall 3 (Nat.le_of_ble_eq_true rfl))
            have v4 : vals_ 4 = .slice (some ⟨g2, o2, none⟩) N c2 := hI.has 4 (Nat.le_of_ble_eq_true rfl) (hall 4 (Nat.le_of_ble_eq_true rfl))
            have v5 : vals_ 5 = .int .i64 (j : Int) := hI.has 5 (Nat.le_of_ble_eq_true rfl) (hall 5 (Nat.le_of_ble_eq_true rfl))
            have v6 : vals_ 6 = .pointer (some ⟨g2, o2 + j * 2, none⟩) := hI.has 6 (Nat.le_of_ble_eq_true rfl) (hall 6 (Nat.le_of_ble_eq_true rfl))
            have v7 : vals_ 7 = .agg (SS y) := hI.has 7 (Nat.le_of_ble_eq_true rfl) (hall 7 (Nat.le_of_ble_eq_true rfl))
            have v8 : vals_ 8 = .bool true := hI.has 8 (Nat.le_of_ble_eq_true rfl) (hall 8 (Nat.le_of_ble_eq_true rfl))
            simp only [List.length_cons, List.length_nil, Nat.zero_add, Nat.reduceAdd, List.size_toArray, slots, if_true, dstOf, List.getElem?_toArray, List.getElem?_cons_zero, List.getElem?_cons_succ, Option.bind_some, Act.put, List.setIfInBounds_toArray, List.set_cons_zero, List.set_cons_succ, v0, v1, v2, v3, v4, v5, v6, v7, v8]
            clear hI hall v0 v1 v2 v3 v4 v5 v6 v7 v8
            change wpAny _ _ _ _ 0 _ _ _
            refine wpAny_done (by kernel_rfl) ?_ _
            have HB2 := Lib.hid (bel HB.out hB)
            clear hB
            go_wp2
            go_ret
            refine ⟨?_, HB2.out⟩
            rw [decide_eq_false (fun e => HNE.out (Option.some.inj (by rw [← HXJ.out, ← HYJ.out, e])))]
            rfl
      · obtain rfl : j = N := by omega
        go_wp2
        go_ret
        refine ⟨?_, HB.out⟩
        have h := HT.out
        rw [List.take_of_length_le (by rw [← HN.out]; exact Nat.le_refl _), List.take_of_length_le (by rw [← HM.out]; exact Nat.le_refl _)] at h
        rw [decide_eq_true h]
        rfl
  · have hne : ¬ ((N : Int) = (M : Int)) := by omega
    have hne2 : ((N : Int) == (M : Int)) = false := beq_eq_false_iff_ne.2 hne
    go_wp2
    go_ret
    refine ⟨?_, Below.refl _ _⟩
    rw [decide_eq_false (fun e => q (by rw [HN.out, HM.out, e]))]
    rfl
end Go.Proofs.Ytndfoohdoadkfaa
