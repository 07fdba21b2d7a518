/- The law VectorTotals: one way of its walk. -/
import Derived.Test.YtidfmpiliinmeaaLb
set_option linter.unusedVariables false
set_option linter.unusedSimpArgs false
namespace Go.Proofs.Ytidfmpiliinmeaa
open Go.RowKit
set_option maxRecDepth 100000 in
set_option maxHeartbeats 8000000 in
theorem tot_a (x y : Nat → Int) (n tx ty tj tm : Int) (w : World) (R1 : rightB x = false) (R2 : rightB y = false) (Tx : totalI x = tx) (Ty : totalI y = ty) (hm : tx = 0 ∨ ty = 0) :
    Calls Try.prog 4 #[.agg (CS x), .agg (CS y)] w fun e w' => e = .returned (.bool true) ∧ Below w.heap.size w w' := by
  have KR1 := Lib.hid R1
  have KR2 := Lib.hid R2
  have KTx := Lib.hid Tx
  have KTy := Lib.hid Ty
  clear R1 R2 Tx Ty
  have hprod : tx * ty = 0 := by rcases hm with h | h <;> simp [h]
  have KP := Lib.hid hprod
  clear hprod hm
  have hX : ((w.alloc (.cells (CS x) 23)).alloc (.cells (CS y) 23)).heap[w.heap.size]? = some (.cells (CS x) 23 (0, 0)) := (heap_alloc_old _ _ (by simp)).trans (heap_alloc_new w _)
  have hY : ((w.alloc (.cells (CS x) 23)).alloc (.cells (CS y) 23)).heap[w.heap.size + 1]? = some (.cells (CS y) 23 (0, 0)) := heap_new_at (by simp)
  have hBW : Below w.heap.size w ((w.alloc (.cells (CS x) 23)).alloc (.cells (CS y) 23)) := below_alloc (below_alloc (Below.refl _ _) _) _
  go_enter Try.func4, Try.ntmps4
  go_wp2_with (first
    | (refine wpList_load_on (by rfl) 23 (.tmp 2) rfl _ rfl 23 (CS x) (0, 0) _ hX Try.underlying23 rfl (info23 _) ?_)
    | (refine wpList_load_on (by rfl) 23 (.tmp 3) rfl _ rfl 23 (CS y) (0, 0) _ hY Try.underlying23 rfl (info23 _) ?_)
    | (refine wpList_load_on (by rfl) 24 (.tmp 5) rfl _ rfl 24 (CS x) (0, 0) _ hX Try.underlying24 rfl (info24 _) ?_)
    | (refine wpList_load_on (by rfl) 24 (.tmp 6) rfl _ rfl 24 (CS y) (0, 0) _ hY Try.underlying24 rfl (info24 _) ?_)
    | (refine wpList_store_whole rfl 24 (.tmp 5) (.tmp 7) rfl ?g_1 (CS x) ?c_1 24 ?ha_1 ?hb_1 ?hc_1 ?hd_1 ?he_1 ?hf_1 ?_; (case ha_1 => rfl); (case hb_1 => rfl); (case hc_1 => refine heap_new_at ?_; simp); (case hd_1 => rfl); (case he_1 => exact info24 _); (case hf_1 => kernel_rfl); (intro w1 hX hs1 hfar hbel; go_must (replace hY := (hfar _ (Nat.ne_of_lt (Nat.lt_of_lt_of_eq (heap_lt hY) (by simp)))).trans ((heap_alloc_old _ _ (heap_lt hY)).trans hY); replace hBW := hbel _ _ (by omega) (below_alloc hBW _); (try simp at hs1); clear hfar hbel)))
    | (refine wpList_store_whole rfl 24 (.tmp 6) (.tmp 8) rfl ?g_2 (CS y) ?c_2 24 ?ha_2 ?hb_2 ?hc_2 ?hd_2 ?he_2 ?hf_2 ?_; (case ha_2 => rfl); (case hb_2 => rfl); (case hc_2 => refine heap_new_at ?_; simp [hs1]); (case hd_2 => rfl); (case he_2 => exact info24 _); (case hf_2 => kernel_rfl); (intro w2 hY hs2 hfar hbel; go_must (replace hX := (hfar _ (Nat.ne_of_lt (Nat.lt_of_lt_of_eq (heap_lt hX) (by simp [hs1])))).trans ((heap_alloc_old _ _ (heap_lt hX)).trans hX); replace hBW := hbel _ _ (by omega) (below_alloc hBW _); (try simp at hs2); clear hfar hbel)))
    | (go_at_call_of 12 (Value.agg (CS x)); (refine (rightV_is _ _ KR1.out _).mono ?_; rintro e w3 ⟨rfl, hb⟩; replace hX := (hb.block _ (heap_lt hX)).trans hX; replace hY := (hb.block _ (heap_lt hY)).trans hY; replace hBW := bel hBW hb; clear hb))
    | (go_at_call_of 12 (Value.agg (CS y)); (refine (rightV_is _ _ KR2.out _).mono ?_; rintro e w3 ⟨rfl, hb⟩; replace hX := (hb.block _ (heap_lt hX)).trans hX; replace hY := (hb.block _ (heap_lt hY)).trans hY; replace hBW := bel hBW hb; clear hb)))
  refine drawn_data (w := w3) ([.inl (.agg (CS x)), .inl (.int .i64 tx), .inl (.agg (CS y)), .inl (.int .i64 ty), .inl (.int .i64 0), .inl (.bool true), .inl (.bool true), .inl (.bool true), .inl (.bool true), .inl (.bool true)] : List Leaves) (by kernel_rfl) (by kernel_rfl) (by kernel_rfl) ?_ ?_
  · intro i hi
    rcases (show i = 0 ∨ i = 1 ∨ i = 2 ∨ i = 3 ∨ i = 4 ∨ i = 5 ∨ i = 6 ∨ i = 7 ∨ i = 8 ∨ i = 9 by simp at hi; omega) with rfl | rfl | rfl | rfl | rfl | rfl | rfl | rfl | rfl | rfl
    · intro a W hs ho hB
      have e5 : a.tmps[5]? = some (.pointer (some ⟨w.heap.size + 1 + 1, 0, none⟩)) := (ho 5 (by kernel_rfl)).trans rfl
      refine ⟨_, rfl, fun KR hKR => ?_⟩
      rw [if_pos (show Region.wanted _ _ = true from rfl)]
      refine wp_load_row 24 (.tmp 5) rfl _ (by simp [Act.eval, e5]) 24 _ (0, 0) _ ((hB.block _ (heap_lt hX)).trans hX) Try.underlying24 rfl (info24 _) ?_
      exact hKR _ _ rfl (Below.refl _ _) (fun h => by cases h)
    · intro a W hs ho hB
      have e17 : a.tmps[17]? = some (.agg (CS x)) := hs 0 (by kernel_rfl) _ rfl 17 rfl
      refine ⟨_, rfl, fun KR hKR => ?_⟩
      rw [if_pos (show Region.wanted _ _ = true from rfl)]
      clear hs ho
      (go_simp; (go_at_call 13; refine (totalV_is _ _ KTx.out _).mono ?_; rintro e w1 ⟨rfl, hb⟩); exact hKR _ _ rfl hb (fun h => by cases h))
    · intro a W hs ho hB
      have e6 : a.tmps[6]? = some (.pointer (some ⟨w.heap.size + 1 + 1 + 1, 0, none⟩)) := (ho 6 (by kernel_rfl)).trans rfl
      refine ⟨_, rfl, fun KR hKR => ?_⟩
      rw [if_pos (show Region.wanted _ _ = true from rfl)]
      refine wp_load_row 24 (.tmp 6) rfl _ (by simp [Act.eval, e6]) 24 _ (0, 0) _ ((hB.block _ (heap_lt hY)).trans hY) Try.underlying24 rfl (info24 _) ?_
      exact hKR _ _ rfl (Below.refl _ _) (fun h => by cases h)
    · intro a W hs ho hB
      have e19 : a.tmps[19]? = some (.agg (CS y)) := hs 2 (by kernel_rfl) _ rfl 19 rfl
      refine ⟨_, rfl, fun KR hKR => ?_⟩
      rw [if_pos (show Region.wanted _ _ = true from rfl)]
      clear hs ho
      (go_simp; (go_at_call 13; refine (totalV_is _ _ KTy.out _).mono ?_; rintro e w1 ⟨rfl, hb⟩); exact hKR _ _ rfl hb (fun h => by cases h))
    · intro a W hs ho hB
      have e18 : a.tmps[18]? = some (.int .i64 tx) := hs 1 (by kernel_rfl) _ rfl 18 rfl
      have e20 : a.tmps[20]? = some (.int .i64 ty) := hs 3 (by kernel_rfl) _ rfl 20 rfl
      refine ⟨_, rfl, fun KR hKR => ?_⟩
      rw [if_pos (show Region.wanted _ _ = true from rfl)]
      have E := KP.out
      clear hs ho
      go_simp
      exact hKR _ _ rfl (Below.refl _ _) (fun h => by cases h)
    · intro a W hs ho hB
      have e21 : a.tmps[21]? = some (.int .i64 0) := hs 4 (by kernel_rfl) _ rfl 21 rfl
      refine ⟨_, rfl, fun KR hKR => ?_⟩
      rw [if_pos (show Region.wanted _ _ = true from rfl)]
      clear hs ho
      go_simp
      exact hKR _ _ rfl (Below.refl _ _) (fun h => by cases h)
    · intro a W hs ho hB
      have e22 : a.tmps[22]? = some (.bool true) := hs 5 (by kernel_rfl) _ rfl 22 rfl
      refine ⟨_, rfl, fun KR hKR => ?_⟩
      rw [if_pos (show Region.wanted _ _ = true from rfl)]
      clear hs ho
      go_simp
      exact hKR _ _ rfl (Below.refl _ _) (fun h => by cases h)
    · intro a W hs ho hB
      have e23 : a.tmps[23]? = some (.bool true) := hs 6 (by kernel_rfl) _ rfl 23 rfl
      refine ⟨_, rfl, fun KR hKR => ?_⟩
      rw [if_pos (wanted_of (j := 6) (d := 23) rfl rfl e23)]
      clear e23
      clear hs ho
      go_simp
      (go_at_call 11; refine (knows_any _).mono ?_; rintro e w1 ⟨rfl, hb⟩)
      exact hKR _ _ rfl hb (fun h => by cases h)
    · intro a W hs ho hB
      have e23 : a.tmps[23]? = some (.bool true) := hs 6 (by kernel_rfl) _ rfl 23 rfl
      have e24 : a.tmps[24]? = some (.bool true) := hs 7 (by kernel_rfl) _ rfl 24 rfl
      refine ⟨_, rfl, fun KR hKR => ?_⟩
      rw [if_pos (show Region.wanted _ _ = true from rfl)]
      clear hs ho
      go_simp
      exact hKR _ _ rfl (Below.refl _ _) (fun h => by cases h)
    · intro a W hs ho hB
      have e25 : a.tmps[25]? = some (.bool true) := hs 8 (by kernel_rfl) _ rfl 25 rfl
      refine ⟨_, rfl, fun KR hKR => ?_⟩
      rw [if_pos (show Region.wanted _ _ = true from rfl)]
      clear hs ho
      go_simp
      exact hKR _ _ rfl (Below.refl _ _) (fun h => by cases h)
  · intro vals W hv hne hB
    have v0 : vals 0 = .agg (CS x) := hv 0 (Nat.le_of_ble_eq_true rfl)
    have v1 : vals 1 = .int .i64 tx := hv 1 (Nat.le_of_ble_eq_true rfl)
    have v2 : vals 2 = .agg (CS y) := hv 2 (Nat.le_of_ble_eq_true rfl)
    have v3 : vals 3 = .int .i64 ty := hv 3 (Nat.le_of_ble_eq_true rfl)
    have v4 : vals 4 = .int .i64 0 := hv 4 (Nat.le_of_ble_eq_true rfl)
    have v5 : vals 5 = .bool true := hv 5 (Nat.le_of_ble_eq_true rfl)
    have v6 : vals 6 = .bool true := hv 6 (Nat.le_of_ble_eq_true rfl)
    have v7 : vals 7 = .bool true := hv 7 (Nat.le_of_ble_eq_true rfl)
    have v8 : vals 8 = .bool true := hv 8 (Nat.le_of_ble_eq_true rfl)
    have v9 : vals 9 = .bool true := hv 9 (Nat.le_of_ble_eq_true rfl)
    simp only [List.length_cons, List.length_nil, Nat.zero_add, Nat.reduceAdd, slots, if_true, dstOf, List.getElem?_toArray, List.getElem?_cons_zero, List.getElem?_cons_succ, Option.bind_some, Act.put, List.setIfInBounds_toArray, List.set_cons_zero, List.set_cons_succ, v0, v1, v2, v3, v4, v5, v6, v7, v8, v9]
    clear hv hne v0 v1 v2 v3 v4 v5 v6 v7 v8 v9
    change wpAny _ _ _ _ 0 _ _ _
    refine wpAny_done (by kernel_rfl) ?_ _
    replace hBW := bel hBW hB
    go_wp2
    go_ret
    exact ⟨rfl, by assumption⟩
end Go.Proofs.Ytidfmpiliinmeaa
