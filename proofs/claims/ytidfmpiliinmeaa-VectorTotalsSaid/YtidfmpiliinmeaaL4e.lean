/- The law VectorTotals: one way of its walk. -/
import Derived.Test.YtidfmpiliinmeaaLb
set_option linter.unusedVariables false
set_option linter.unusedSimpArgs false
namespace Go.Proofs.Ytidfmpiliinmeaa
open Go.RowKit
set_option maxRecDepth 100000 in
set_option maxHeartbeats 8000000 in
theorem tot_e (x y : Nat → Int) (n tx ty tj tm : Int) (w : World) (R1 : rightB x = true) (R2 : rightB y = true) (CC : cmpF x y = n) (Tx : totalI x = tx) (Ty : totalI y = ty) (Tj : totalI (mxF x y) = tj) (Tm : totalI (mnF x y) = tm) (b1 : 0 ≤ tx) (b2 : tx ≤ 8192) (b3 : 0 ≤ ty) (b4 : ty ≤ 8192) (b5 : 0 ≤ tj) (b6 : tj ≤ 8192) (b7 : 0 ≤ tm) (b8 : tm ≤ 8192) (hs : tj + tm = tx + ty) (hn : (n == 1) = false) :
    Calls Try.prog 4 #[.agg (CS x), .agg (CS y)] w fun e w' => e = .returned (.bool true) ∧ Below w.heap.size w w' := by
  have KR1 := Lib.hid R1
  have KR2 := Lib.hid R2
  have KTx := Lib.hid Tx
  have KTy := Lib.hid Ty
  have KC := Lib.hid CC
  have KTj := Lib.hid Tj
  have KTm := Lib.hid Tm
  have KS := Lib.hid hs
  have KN := Lib.hid hn
  clear R1 R2 Tx Ty CC Tj Tm hs hn
  have hX : ((w.alloc (.cells (CS x) 23)).alloc (.cells (CS y) 23)).heap[w.heap.size]? = some (.cells (CS x) 23 (0, 0)) := (heap_alloc_old _ _ (by simp)).trans (heap_alloc_new w _)
  have hY : ((w.alloc (.cells (CS x) 23)).alloc (.cells (CS y) 23)).heap[w.heap.size + 1]? = some (.cells (CS y) 23 (0, 0)) := heap_new_at (by simp)
  have hBW : Below w.heap.size w ((w.alloc (.cells (CS x) 23)).alloc (.cells (CS y) 23)) := below_alloc (below_alloc (Below.refl _ _) _) _
  go_enter Try.func4, Try.ntmps4
  go_wp2_with (first
    | (refine wpList_load_on (by rfl) 23 (.tmp 2) rfl _ rfl 23 (CS x) (0, 0) _ hX Try.underlying23 rfl (info23 _) ?_)
    | (refine wpList_load_on (by rfl) 23 (.tmp 3) rfl _ rfl 23 (CS y) (0, 0) _ hY Try.underlying23 rfl (info23 _) ?_)
    | (refine wpList_load_on (by rfl) 24 (.tmp 5) rfl _ rfl 24 (CS x) (0, 0) _ hX Try.underlying24 rfl (info24 _) ?_)
    | (refine wpList_load_on (by rfl) 24 (.tmp 6) rfl _ rfl 24 (CS y) (0, 0) _ hY Try.underlying24 rfl (info24 _) ?_)
    | (refine wpList_store_whole rfl 24 (.tmp 5) (.tmp 7) rfl ?g_1 (CS x) ?c_1 24 ?ha_1 ?hb_1 ?hc_1 ?hd_1 ?he_1 ?hf_1 ?_; (case ha_1 => rfl); (case hb_1 => rfl); (case hc_1 => refine heap_new_at ?_; simp); (case hd_1 => rfl); (case he_1 => exact info24 _); (case hf_1 => kernel_rfl); (intro w1 hX hs1 hfar hbel; go_must (replace hY := (hfar _ (Nat.ne_of_lt (Nat.lt_of_lt_of_eq (heap_lt hY) (by simp)))).trans ((heap_alloc_old _ _ (heap_lt hY)).trans hY); replace hBW := hbel _ _ (by omega) (below_alloc hBW _); (try simp at hs1); clear hfar hbel)))
    | (refine wpList_store_whole rfl 24 (.tmp 6) (.tmp 8) rfl ?g_2 (CS y) ?c_2 24 ?ha_2 ?hb_2 ?hc_2 ?hd_2 ?he_2 ?hf_2 ?_; (case ha_2 => rfl); (case hb_2 => rfl); (case hc_2 => refine heap_new_at ?_; simp [hs1]); (case hd_2 => rfl); (case he_2 => exact info24 _); (case hf_2 => kernel_rfl); (intro w2 hY hs2 hfar hbel; go_must (replace hX := (hfar _ (Nat.ne_of_lt (Nat.lt_of_lt_of_eq (heap_lt hX) (by simp [hs1])))).trans ((heap_alloc_old _ _ (heap_lt hX)).trans hX); replace hBW := hbel _ _ (by omega) (below_alloc hBW _); (try simp at hs2); clear hfar hbel)))
    | (go_at_call_of 12 (Value.agg (CS x)); (refine (rightV_is _ _ KR1.out _).mono ?_; rintro e w3 ⟨rfl, hb⟩; replace hX := (hb.block _ (heap_lt hX)).trans hX; replace hY := (hb.block _ (heap_lt hY)).trans hY; replace hBW := bel hBW hb; clear hb))
    | (go_at_call_of 12 (Value.agg (CS y)); (refine (rightV_is _ _ KR2.out _).mono ?_; rintro e w3 ⟨rfl, hb⟩; replace hX := (hb.block _ (heap_lt hX)).trans hX; replace hY := (hb.block _ (heap_lt hY)).trans hY; replace hBW := bel hBW hb; clear hb)))
  refine drawn_data (w := w3) ([.inl (.agg (CS x)), .inl (.agg (CS y)), .inl (.int .i64 n), .inl (.bool false), .inl (.bool false), .inl (undef), .inl (undef), .inl (undef), .inl (undef), .inl (undef), .inl (.bool false)] : List Leaves) (by kernel_rfl) (by kernel_rfl) (by kernel_rfl) ?_ ?_
  · intro i hi
    rcases (show i = 0 ∨ i = 1 ∨ i = 2 ∨ i = 3 ∨ i = 4 ∨ i = 5 ∨ i = 6 ∨ i = 7 ∨ i = 8 ∨ i = 9 ∨ i = 10 by simp at hi; omega) with rfl | rfl | rfl | rfl | rfl | rfl | rfl | rfl | rfl | rfl | rfl
    · intro a W hs ho hB
      have e5 : a.tmps[5]? = some (.pointer (some ⟨w.heap.size + 1 + 1, 0, none⟩)) := (ho 5 (by kernel_rfl)).trans rfl
      refine ⟨_, rfl, fun KR hKR => ?_⟩
      rw [if_pos (show Region.wanted _ _ = true from rfl)]
      refine wp_load_row 24 (.tmp 5) rfl _ (by simp [Act.eval, e5]) 24 _ (0, 0) _ ((hB.block _ (heap_lt hX)).trans hX) Try.underlying24 rfl (info24 _) ?_
      exact hKR _ _ rfl (Below.refl _ _) (fun h => by cases h)
    · intro a W hs ho hB
      have e6 : a.tmps[6]? = some (.pointer (some ⟨w.heap.size + 1 + 1 + 1, 0, none⟩)) := (ho 6 (by kernel_rfl)).trans rfl
      refine ⟨_, rfl, fun KR hKR => ?_⟩
      rw [if_pos (show Region.wanted _ _ = true from rfl)]
      refine wp_load_row 24 (.tmp 6) rfl _ (by simp [Act.eval, e6]) 24 _ (0, 0) _ ((hB.block _ (heap_lt hY)).trans hY) Try.underlying24 rfl (info24 _) ?_
      exact hKR _ _ rfl (Below.refl _ _) (fun h => by cases h)
    · intro a W hs ho hB
      have e26 : a.tmps[26]? = some (.agg (CS x)) := hs 0 (by kernel_rfl) _ rfl 26 rfl
      have e27 : a.tmps[27]? = some (.agg (CS y)) := hs 1 (by kernel_rfl) _ rfl 27 rfl
      refine ⟨_, rfl, fun KR hKR => ?_⟩
      rw [if_pos (show Region.wanted _ _ = true from rfl)]
      clear hs ho
      go_simp
      (go_at_call 10; refine (cmpV_is _ _ _ KC.out _).mono ?_; rintro e w1 ⟨rfl, hb⟩)
      exact hKR _ _ rfl hb (fun h => by cases h)
    · intro a W hs ho hB
      have e28 : a.tmps[28]? = some (.int .i64 n) := hs 2 (by kernel_rfl) _ rfl 28 rfl
      refine ⟨_, rfl, fun KR hKR => ?_⟩
      rw [if_pos (show Region.wanted _ _ = true from rfl)]
      have E := KN.out
      clear hs ho
      go_simp
      exact hKR _ _ rfl (Below.refl _ _) (fun h => by cases h)
    · intro a W hs ho hB
      have e29 : a.tmps[29]? = some (.bool false) := hs 3 (by kernel_rfl) _ rfl 29 rfl
      refine ⟨_, rfl, fun KR hKR => ?_⟩
      rw [if_pos (show Region.wanted _ _ = true from rfl)]
      clear hs ho
      go_simp
      exact hKR _ _ rfl (Below.refl _ _) (fun h => by cases h)
    · intro a W hs ho hB
      have e30 : a.tmps[30]? = some (.bool false) := hs 4 (by kernel_rfl) _ rfl 30 rfl
      refine ⟨_, rfl, fun KR hKR => ?_⟩
      rw [if_neg (unwanted_of (j := 4) (d := 30) rfl rfl e30 (by simp))]
      exact hKR _ _ rfl (Below.refl _ _) (fun h => by cases h)
    · intro a W hs ho hB
      have e30 : a.tmps[30]? = some (.bool false) := hs 4 (by kernel_rfl) _ rfl 30 rfl
      refine ⟨_, rfl, fun KR hKR => ?_⟩
      rw [if_neg (unwanted_of (j := 4) (d := 30) rfl rfl e30 (by simp))]
      exact hKR _ _ rfl (Below.refl _ _) (fun h => by cases h)
    · intro a W hs ho hB
      have e30 : a.tmps[30]? = some (.bool false) := hs 4 (by kernel_rfl) _ rfl 30 rfl
      refine ⟨_, rfl, fun KR hKR => ?_⟩
      rw [if_neg (unwanted_of (j := 4) (d := 30) rfl rfl e30 (by simp))]
      exact hKR _ _ rfl (Below.refl _ _) (fun h => by cases h)
    · intro a W hs ho hB
      have e30 : a.tmps[30]? = some (.bool false) := hs 4 (by kernel_rfl) _ rfl 30 rfl
      refine ⟨_, rfl, fun KR hKR => ?_⟩
      rw [if_neg (unwanted_of (j := 4) (d := 30) rfl rfl e30 (by simp))]
      exact hKR _ _ rfl (Below.refl _ _) (fun h => by cases h)
    · intro a W hs ho hB
      have e30 : a.tmps[30]? = some (.bool false) := hs 4 (by kernel_rfl) _ rfl 30 rfl
      refine ⟨_, rfl, fun KR hKR => ?_⟩
      rw [if_neg (unwanted_of (j := 4) (d := 30) rfl rfl e30 (by simp))]
      exact hKR _ _ rfl (Below.refl _ _) (fun h => by cases h)
    · intro a W hs ho hB
      have e30 : a.tmps[30]? = some (.bool false) := hs 4 (by kernel_rfl) _ rfl 30 rfl
      have e35 : a.tmps[35]? = some (undef) := hs 9 (by kernel_rfl) _ rfl 35 rfl
      refine ⟨_, rfl, fun KR hKR => ?_⟩
      rw [if_pos (show Region.wanted _ _ = true from rfl)]
      clear hs ho
      go_simp
      exact hKR _ _ rfl (Below.refl _ _) (fun h => by cases h)
  · intro vals W hv hne hB
    have v0 : vals 0 = .agg (CS x) := hv 0 (Nat.le_of_ble_eq_true rfl)
    have v1 : vals 1 = .agg (CS y) := hv 1 (Nat.le_of_ble_eq_true rfl)
    have v2 : vals 2 = .int .i64 n := hv 2 (Nat.le_of_ble_eq_true rfl)
    have v3 : vals 3 = .bool false := hv 3 (Nat.le_of_ble_eq_true rfl)
    have v4 : vals 4 = .bool false := hv 4 (Nat.le_of_ble_eq_true rfl)
    have v5 : vals 5 = undef := hv 5 (Nat.le_of_ble_eq_true rfl)
    have v6 : vals 6 = undef := hv 6 (Nat.le_of_ble_eq_true rfl)
    have v7 : vals 7 = undef := hv 7 (Nat.le_of_ble_eq_true rfl)
    have v8 : vals 8 = undef := hv 8 (Nat.le_of_ble_eq_true rfl)
    have v9 : vals 9 = undef := hv 9 (Nat.le_of_ble_eq_true rfl)
    have v10 : vals 10 = .bool false := hv 10 (Nat.le_of_ble_eq_true rfl)
    simp only [List.length_cons, List.length_nil, Nat.zero_add, Nat.reduceAdd, slots, if_true, dstOf, List.getElem?_toArray, List.getElem?_cons_zero, List.getElem?_cons_succ, Option.bind_some, Act.put, List.setIfInBounds_toArray, List.set_cons_zero, List.set_cons_succ, v0, v1, v2, v3, v4, v5, v6, v7, v8, v9, v10]
    clear hv hne v0 v1 v2 v3 v4 v5 v6 v7 v8 v9 v10
    change wpAny _ _ _ _ 0 _ _ _
    refine wpAny_done (by kernel_rfl) ?_ _
    replace hX := (hB.block _ (heap_lt hX)).trans hX
    replace hY := (hB.block _ (heap_lt hY)).trans hY
    replace hBW := bel hBW hB
    clear hB
    go_wp2
    refine drawn_data (w := W) ([.inl (.agg (CS x)), .inl (.agg (CS y)), .inl (.agg (CS (mxF x y))), .inl (.int .i64 tj), .inl (.agg (CS x)), .inl (.agg (CS y)), .inl (.agg (CS (mnF x y))), .inl (.int .i64 tm), .inl (.int .i64 (tj + tm)), .inl (.agg (CS x)), .inl (.int .i64 tx), .inl (.agg (CS y)), .inl (.int .i64 ty), .inl (.int .i64 (tx + ty)), .inl (.bool true), .inl (.bool true), .inl (.bool true), .inl (.bool true), .inl (.bool true)] : List Leaves) (by kernel_rfl) (by kernel_rfl) (by kernel_rfl) ?_ ?_
    · intro i hi
      rcases (show i = 0 ∨ i = 1 ∨ i = 2 ∨ i = 3 ∨ i = 4 ∨ i = 5 ∨ i = 6 ∨ i = 7 ∨ i = 8 ∨ i = 9 ∨ i = 10 ∨ i = 11 ∨ i = 12 ∨ i = 13 ∨ i = 14 ∨ i = 15 ∨ i = 16 ∨ i = 17 ∨ i = 18 by simp at hi; omega) with rfl | rfl | rfl | rfl | rfl | rfl | rfl | rfl | rfl | rfl | rfl | rfl | rfl | rfl | rfl | rfl | rfl | rfl | rfl
      · intro a W hs ho hB
        have e5 : a.tmps[5]? = some (.pointer (some ⟨w.heap.size + 1 + 1, 0, none⟩)) := (ho 5 (by kernel_rfl)).trans rfl
        refine ⟨_, rfl, fun KR hKR => ?_⟩
        rw [if_pos (show Region.wanted _ _ = true from rfl)]
        refine wp_load_row 24 (.tmp 5) rfl _ (by simp [Act.eval, e5]) 24 _ (0, 0) _ ((hB.block _ (heap_lt hX)).trans hX) Try.underlying24 rfl (info24 _) ?_
        exact hKR _ _ rfl (Below.refl _ _) (fun h => by cases h)
      · intro a W hs ho hB
        have e6 : a.tmps[6]? = some (.pointer (some ⟨w.heap.size + 1 + 1 + 1, 0, none⟩)) := (ho 6 (by kernel_rfl)).trans rfl
        refine ⟨_, rfl, fun KR hKR => ?_⟩
        rw [if_pos (show Region.wanted _ _ = true from rfl)]
        refine wp_load_row 24 (.tmp 6) rfl _ (by simp [Act.eval, e6]) 24 _ (0, 0) _ ((hB.block _ (heap_lt hY)).trans hY) Try.underlying24 rfl (info24 _) ?_
        exact hKR _ _ rfl (Below.refl _ _) (fun h => by cases h)
      · intro a W hs ho hB
        have e37 : a.tmps[37]? = some (.agg (CS x)) := hs 0 (by kernel_rfl) _ rfl 37 rfl
        have e38 : a.tmps[38]? = some (.agg (CS y)) := hs 1 (by kernel_rfl) _ rfl 38 rfl
        refine ⟨_, rfl, fun KR hKR => ?_⟩
        rw [if_pos (show Region.wanted _ _ = true from rfl)]
        clear hs ho
        go_simp
        (go_at_call 7; refine (joinV _ _ _).mono ?_; rintro e w1 ⟨rfl, hb⟩)
        exact hKR _ _ rfl hb (fun h => by cases h)
      · intro a W hs ho hB
        have e39 : a.tmps[39]? = some (.agg (CS (mxF x y))) := hs 2 (by kernel_rfl) _ rfl 39 rfl
        refine ⟨_, rfl, fun KR hKR => ?_⟩
        rw [if_pos (show Region.wanted _ _ = true from rfl)]
        clear hs ho
        (go_simp; (go_at_call 13; refine (totalV_is _ _ KTj.out _).mono ?_; rintro e w1 ⟨rfl, hb⟩); exact hKR _ _ rfl hb (fun h => by cases h))
      · intro a W hs ho hB
        have e5 : a.tmps[5]? = some (.pointer (some ⟨w.heap.size + 1 + 1, 0, none⟩)) := (ho 5 (by kernel_rfl)).trans rfl
        refine ⟨_, rfl, fun KR hKR => ?_⟩
        rw [if_pos (show Region.wanted _ _ = true from rfl)]
        refine wp_load_row 24 (.tmp 5) rfl _ (by simp [Act.eval, e5]) 24 _ (0, 0) _ ((hB.block _ (heap_lt hX)).trans hX) Try.underlying24 rfl (info24 _) ?_
        exact hKR _ _ rfl (Below.refl _ _) (fun h => by cases h)
      · intro a W hs ho hB
        have e6 : a.tmps[6]? = some (.pointer (some ⟨w.heap.size + 1 + 1 + 1, 0, none⟩)) := (ho 6 (by kernel_rfl)).trans rfl
        refine ⟨_, rfl, fun KR hKR => ?_⟩
        rw [if_pos (show Region.wanted _ _ = true from rfl)]
        refine wp_load_row 24 (.tmp 6) rfl _ (by simp [Act.eval, e6]) 24 _ (0, 0) _ ((hB.block _ (heap_lt hY)).trans hY) Try.underlying24 rfl (info24 _) ?_
        exact hKR _ _ rfl (Below.refl _ _) (fun h => by cases h)
      · intro a W hs ho hB
        have e41 : a.tmps[41]? = some (.agg (CS x)) := hs 4 (by kernel_rfl) _ rfl 41 rfl
        have e42 : a.tmps[42]? = some (.agg (CS y)) := hs 5 (by kernel_rfl) _ rfl 42 rfl
        refine ⟨_, rfl, fun KR hKR => ?_⟩
        rw [if_pos (show Region.wanted _ _ = true from rfl)]
        clear hs ho
        go_simp
        (go_at_call 8; refine (meetV _ _ _).mono ?_; rintro e w1 ⟨rfl, hb⟩)
        exact hKR _ _ rfl hb (fun h => by cases h)
      · intro a W hs ho hB
        have e43 : a.tmps[43]? = some (.agg (CS (mnF x y))) := hs 6 (by kernel_rfl) _ rfl 43 rfl
        refine ⟨_, rfl, fun KR hKR => ?_⟩
        rw [if_pos (show Region.wanted _ _ = true from rfl)]
        clear hs ho
        (go_simp; (go_at_call 13; refine (totalV_is _ _ KTm.out _).mono ?_; rintro e w1 ⟨rfl, hb⟩); exact hKR _ _ rfl hb (fun h => by cases h))
      · intro a W hs ho hB
        have e40 : a.tmps[40]? = some (.int .i64 tj) := hs 3 (by kernel_rfl) _ rfl 40 rfl
        have e44 : a.tmps[44]? = some (.int .i64 tm) := hs 7 (by kernel_rfl) _ rfl 44 rfl
        refine ⟨_, rfl, fun KR hKR => ?_⟩
        rw [if_pos (show Region.wanted _ _ = true from rfl)]
        have E : IntKind.i64.wrap (tj + tm) = tj + tm := IntWalk.i64_in _ (by omega)
        clear hs ho
        go_simp
        exact hKR _ _ rfl (Below.refl _ _) (fun h => by cases h)
      · intro a W hs ho hB
        have e5 : a.tmps[5]? = some (.pointer (some ⟨w.heap.size + 1 + 1, 0, none⟩)) := (ho 5 (by kernel_rfl)).trans rfl
        refine ⟨_, rfl, fun KR hKR => ?_⟩
        rw [if_pos (show Region.wanted _ _ = true from rfl)]
        refine wp_load_row 24 (.tmp 5) rfl _ (by simp [Act.eval, e5]) 24 _ (0, 0) _ ((hB.block _ (heap_lt hX)).trans hX) Try.underlying24 rfl (info24 _) ?_
        exact hKR _ _ rfl (Below.refl _ _) (fun h => by cases h)
      · intro a W hs ho hB
        have e46 : a.tmps[46]? = some (.agg (CS x)) := hs 9 (by kernel_rfl) _ rfl 46 rfl
        refine ⟨_, rfl, fun KR hKR => ?_⟩
        rw [if_pos (show Region.wanted _ _ = true from rfl)]
        clear hs ho
        (go_simp; (go_at_call 13; refine (totalV_is _ _ KTx.out _).mono ?_; rintro e w1 ⟨rfl, hb⟩); exact hKR _ _ rfl hb (fun h => by cases h))
      · intro a W hs ho hB
        have e6 : a.tmps[6]? = some (.pointer (some ⟨w.heap.size + 1 + 1 + 1, 0, none⟩)) := (ho 6 (by kernel_rfl)).trans rfl
        refine ⟨_, rfl, fun KR hKR => ?_⟩
        rw [if_pos (show Region.wanted _ _ = true from rfl)]
        refine wp_load_row 24 (.tmp 6) rfl _ (by simp [Act.eval, e6]) 24 _ (0, 0) _ ((hB.block _ (heap_lt hY)).trans hY) Try.underlying24 rfl (info24 _) ?_
        exact hKR _ _ rfl (Below.refl _ _) (fun h => by cases h)
      · intro a W hs ho hB
        have e48 : a.tmps[48]? = some (.agg (CS y)) := hs 11 (by kernel_rfl) _ rfl 48 rfl
        refine ⟨_, rfl, fun KR hKR => ?_⟩
        rw [if_pos (show Region.wanted _ _ = true from rfl)]
        clear hs ho
        (go_simp; (go_at_call 13; refine (totalV_is _ _ KTy.out _).mono ?_; rintro e w1 ⟨rfl, hb⟩); exact hKR _ _ rfl hb (fun h => by cases h))
      · intro a W hs ho hB
        have e47 : a.tmps[47]? = some (.int .i64 tx) := hs 10 (by kernel_rfl) _ rfl 47 rfl
        have e49 : a.tmps[49]? = some (.int .i64 ty) := hs 12 (by kernel_rfl) _ rfl 49 rfl
        refine ⟨_, rfl, fun KR hKR => ?_⟩
        rw [if_pos (show Region.wanted _ _ = true from rfl)]
        have E : IntKind.i64.wrap (tx + ty) = tx + ty := IntWalk.i64_in _ (by omega)
        clear hs ho
        go_simp
        exact hKR _ _ rfl (Below.refl _ _) (fun h => by cases h)
      · intro a W hs ho hB
        have e45 : a.tmps[45]? = some (.int .i64 (tj + tm)) := hs 8 (by kernel_rfl) _ rfl 45 rfl
        have e50 : a.tmps[50]? = some (.int .i64 (tx + ty)) := hs 13 (by kernel_rfl) _ rfl 50 rfl
        refine ⟨_, rfl, fun KR hKR => ?_⟩
        rw [if_pos (show Region.wanted _ _ = true from rfl)]
        have E := KS.out
        clear hs ho
        go_simp
        exact hKR _ _ rfl (Below.refl _ _) (fun h => by cases h)
      · intro a W hs ho hB
        have e51 : a.tmps[51]? = some (.bool true) := hs 14 (by kernel_rfl) _ rfl 51 rfl
        refine ⟨_, rfl, fun KR hKR => ?_⟩
        rw [if_pos (show Region.wanted _ _ = true from rfl)]
        clear hs ho
        go_simp
        exact hKR _ _ rfl (Below.refl _ _) (fun h => by cases h)
      · intro a W hs ho hB
        have e52 : a.tmps[52]? = some (.bool true) := hs 15 (by kernel_rfl) _ rfl 52 rfl
        refine ⟨_, rfl, fun KR hKR => ?_⟩
        rw [if_pos (wanted_of (j := 15) (d := 52) rfl rfl e52)]
        clear e52
        clear hs ho
        go_simp
        (go_at_call 11; refine (knows_any _).mono ?_; rintro e w1 ⟨rfl, hb⟩)
        exact hKR _ _ rfl hb (fun h => by cases h)
      · intro a W hs ho hB
        have e52 : a.tmps[52]? = some (.bool true) := hs 15 (by kernel_rfl) _ rfl 52 rfl
        have e53 : a.tmps[53]? = some (.bool true) := hs 16 (by kernel_rfl) _ rfl 53 rfl
        refine ⟨_, rfl, fun KR hKR => ?_⟩
        rw [if_pos (show Region.wanted _ _ = true from rfl)]
        clear hs ho
        go_simp
        exact hKR _ _ rfl (Below.refl _ _) (fun h => by cases h)
      · intro a W hs ho hB
        have e54 : a.tmps[54]? = some (.bool true) := hs 17 (by kernel_rfl) _ rfl 54 rfl
        refine ⟨_, rfl, fun KR hKR => ?_⟩
        rw [if_pos (show Region.wanted _ _ = true from rfl)]
        clear hs ho
        go_simp
        exact hKR _ _ rfl (Below.refl _ _) (fun h => by cases h)
    · intro vals W hv hne hB
      have v0 : vals 0 = .agg (CS x) := hv 0 (Nat.le_of_ble_eq_true rfl)
      have v1 : vals 1 = .agg (CS y) := hv 1 (Nat.le_of_ble_eq_true rfl)
      have v2 : vals 2 = .agg (CS (mxF x y)) := hv 2 (Nat.le_of_ble_eq_true rfl)
      have v3 : vals 3 = .int .i64 tj := hv 3 (Nat.le_of_ble_eq_true rfl)
      have v4 : vals 4 = .agg (CS x) := hv 4 (Nat.le_of_ble_eq_true rfl)
      have v5 : vals 5 = .agg (CS y) := hv 5 (Nat.le_of_ble_eq_true rfl)
      have v6 : vals 6 = .agg (CS (mnF x y)) := hv 6 (Nat.le_of_ble_eq_true rfl)
      have v7 : vals 7 = .int .i64 tm := hv 7 (Nat.le_of_ble_eq_true rfl)
      have v8 : vals 8 = .int .i64 (tj + tm) := hv 8 (Nat.le_of_ble_eq_true rfl)
      have v9 : vals 9 = .agg (CS x) := hv 9 (Nat.le_of_ble_eq_true rfl)
      have v10 : vals 10 = .int .i64 tx := hv 10 (Nat.le_of_ble_eq_true rfl)
      have v11 : vals 11 = .agg (CS y) := hv 11 (Nat.le_of_ble_eq_true rfl)
      have v12 : vals 12 = .int .i64 ty := hv 12 (Nat.le_of_ble_eq_true rfl)
      have v13 : vals 13 = .int .i64 (tx + ty) := hv 13 (Nat.le_of_ble_eq_true rfl)
      have v14 : vals 14 = .bool true := hv 14 (Nat.le_of_ble_eq_true rfl)
      have v15 : vals 15 = .bool true := hv 15 (Nat.le_of_ble_eq_true rfl)
      have v16 : vals 16 = .bool true := hv 16 (Nat.le_of_ble_eq_true rfl)
      have v17 : vals 17 = .bool true := hv 17 (Nat.le_of_ble_eq_true rfl)
      have v18 : vals 18 = .bool true := hv 18 (Nat.le_of_ble_eq_true rfl)
      simp only [List.length_cons, List.length_nil, Nat.zero_add, Nat.reduceAdd, slots, if_true, dstOf, List.getElem?_toArray, List.getElem?_cons_zero, List.getElem?_cons_succ, Option.bind_some, Act.put, List.setIfInBounds_toArray, List.set_cons_zero, List.set_cons_succ, v0, v1, v2, v3, v4, v5, v6, v7, v8, v9, v10, v11, v12, v13, v14, v15, v16, v17, v18]
      clear hv hne v0 v1 v2 v3 v4 v5 v6 v7 v8 v9 v10 v11 v12 v13 v14 v15 v16 v17 v18
      change wpAny _ _ _ _ 0 _ _ _
      refine wpAny_done (by kernel_rfl) ?_ _
      replace hBW := bel hBW hB
      go_wp2
      go_ret
      exact ⟨rfl, by assumption⟩
end Go.Proofs.Ytidfmpiliinmeaa
