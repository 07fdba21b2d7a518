/- The law VectorLattice: one way of its walk. -/
import Derived.Test.YtidfmpiliinmeaaLb
set_option linter.unusedVariables false
set_option linter.unusedSimpArgs false
namespace Go.Proofs.Ytidfmpiliinmeaa
open Go.RowKit
attribute [local go_sem] eqV_is
set_option maxRecDepth 100000 in
set_option maxHeartbeats 8000000 in
theorem lat_b (x y z : Nat → Int) (n : Int) (w : World) (E1 : eqV (mxF x y) (mxF y x) = true) (E2 : eqV (mnF x y) (mnF y x) = true) (E3 : eqV (mxF x (mxF y z)) (mxF (mxF x y) z) = true) (E4 : eqV (mnF x (mnF y z)) (mnF (mnF x y) z) = true) (E5 : eqV (mxF x (mnF x y)) x = true) (E6 : eqV (mnF x (mxF x y)) x = true) (C1 : eqV (mxF x y) x = false) (C2 : eqV (mxF y x) y = true) (CC : cmpF x y = n) (S : eqV x y = (n == 0)) (CN : (n == 2) = false) :
    Calls Try.prog 3 #[.agg (CS x), .agg (CS y), .agg (CS z)] w fun e w' => e = .returned (.bool true) ∧ Below w.heap.size w w' := by
  have H1 := Lib.hid E1
  have H2 := Lib.hid E2
  have H3 := Lib.hid E3
  have H4 := Lib.hid E4
  have H5 := Lib.hid E5
  have H6 := Lib.hid E6
  have K1 := Lib.hid C1
  have K2 := Lib.hid C2
  have KC := Lib.hid CC
  have KS := Lib.hid S
  have KN := Lib.hid CN
  clear E1 E2 E3 E4 E5 E6 C1 C2 CC S CN
  have hX : (((w.alloc (.cells (CS x) 23)).alloc (.cells (CS y) 23)).alloc (.cells (CS z) 23)).heap[w.heap.size]? = some (.cells (CS x) 23 (0, 0)) := (heap_alloc_old _ _ (by simp; omega)).trans ((heap_alloc_old _ _ (by simp)).trans (heap_alloc_new w _))
  have hY : (((w.alloc (.cells (CS x) 23)).alloc (.cells (CS y) 23)).alloc (.cells (CS z) 23)).heap[w.heap.size + 1]? = some (.cells (CS y) 23 (0, 0)) := (heap_alloc_old _ _ (by simp)).trans (heap_new_at (by simp))
  have hZ : (((w.alloc (.cells (CS x) 23)).alloc (.cells (CS y) 23)).alloc (.cells (CS z) 23)).heap[w.heap.size + 1 + 1]? = some (.cells (CS z) 23 (0, 0)) := heap_new_at (by simp)
  have hBW : Below w.heap.size w (((w.alloc (.cells (CS x) 23)).alloc (.cells (CS y) 23)).alloc (.cells (CS z) 23)) := below_alloc (below_alloc (below_alloc (Below.refl _ _) _) _) _
  go_enter Try.func3, Try.ntmps3
  go_wp2_with (first
    | (refine wpList_load_on (by rfl) 23 (.tmp 3) rfl _ rfl 23 (CS x) (0, 0) _ hX Try.underlying23 rfl (info23 _) ?_)
    | (refine wpList_load_on (by rfl) 23 (.tmp 4) rfl _ rfl 23 (CS y) (0, 0) _ hY Try.underlying23 rfl (info23 _) ?_)
    | (refine wpList_load_on (by rfl) 23 (.tmp 5) rfl _ rfl 23 (CS z) (0, 0) _ hZ Try.underlying23 rfl (info23 _) ?_)
    | (refine wpList_store_whole rfl 24 (.tmp 7) (.tmp 10) rfl ?g_1 (CS x) ?c_1 24 ?ha_1 ?hb_1 ?hc_1 ?hd_1 ?he_1 ?hf_1 ?_; (case ha_1 => rfl); (case hb_1 => rfl); (case hc_1 => refine heap_new_at ?_; simp); (case hd_1 => rfl); (case he_1 => exact info24 _); (case hf_1 => kernel_rfl); (intro w1 hX hs1 hfar hbel; go_must (replace hY := (hfar _ (Nat.ne_of_lt (Nat.lt_of_lt_of_eq (heap_lt hY) (by simp)))).trans ((heap_alloc_old _ _ (heap_lt hY)).trans hY); replace hZ := (hfar _ (Nat.ne_of_lt (Nat.lt_of_lt_of_eq (heap_lt hZ) (by simp)))).trans ((heap_alloc_old _ _ (heap_lt hZ)).trans hZ); replace hBW := hbel _ _ (by omega) (below_alloc hBW _); (try simp at hs1); clear hfar hbel)))
    | (refine wpList_store_whole rfl 24 (.tmp 8) (.tmp 11) rfl ?g_2 (CS y) ?c_2 24 ?ha_2 ?hb_2 ?hc_2 ?hd_2 ?he_2 ?hf_2 ?_; (case ha_2 => rfl); (case hb_2 => rfl); (case hc_2 => refine heap_new_at ?_; simp [hs1]); (case hd_2 => rfl); (case he_2 => exact info24 _); (case hf_2 => kernel_rfl); (intro w2 hY hs2 hfar hbel; go_must (replace hX := (hfar _ (Nat.ne_of_lt (Nat.lt_of_lt_of_eq (heap_lt hX) (by simp [hs1])))).trans ((heap_alloc_old _ _ (heap_lt hX)).trans hX); replace hZ := (hfar _ (Nat.ne_of_lt (Nat.lt_of_lt_of_eq (heap_lt hZ) (by simp [hs1])))).trans ((heap_alloc_old _ _ (heap_lt hZ)).trans hZ); replace hBW := hbel _ _ (by omega) (below_alloc hBW _); (try simp at hs2); clear hfar hbel)))
    | (refine wpList_store_whole rfl 24 (.tmp 9) (.tmp 12) rfl ?g_3 (CS z) ?c_3 24 ?ha_3 ?hb_3 ?hc_3 ?hd_3 ?he_3 ?hf_3 ?_; (case ha_3 => rfl); (case hb_3 => rfl); (case hc_3 => refine heap_new_at ?_; simp [hs2, hs1]); (case hd_3 => rfl); (case he_3 => exact info24 _); (case hf_3 => kernel_rfl); (intro w3 hZ hs3 hfar hbel; go_must (replace hX := (hfar _ (Nat.ne_of_lt (Nat.lt_of_lt_of_eq (heap_lt hX) (by simp [hs2, hs1])))).trans ((heap_alloc_old _ _ (heap_lt hX)).trans hX); replace hY := (hfar _ (Nat.ne_of_lt (Nat.lt_of_lt_of_eq (heap_lt hY) (by simp [hs2, hs1])))).trans ((heap_alloc_old _ _ (heap_lt hY)).trans hY); replace hBW := hbel _ _ (by omega) (below_alloc hBW _); (try simp at hs3); clear hfar hbel))))
  refine drawn_data (w := w3) ([.inl (.agg (CS x)), .inl (.agg (CS y)), .inl (.agg (CS (mxF x y))), .inl (.agg (CS y)), .inl (.agg (CS x)), .inl (.agg (CS (mxF y x))), .inl (.bool false), .inl (.bool false), .inl (.agg (CS x)), .inl (.agg (CS y)), .inl (.agg (CS (mnF x y))), .inl (.agg (CS y)), .inl (.agg (CS x)), .inl (.agg (CS (mnF y x))), .inl (.bool false), .inl (.bool false), .inl (.bool false), .inl (.agg (CS x)), .inl (.agg (CS y)), .inl (.agg (CS z)), .inl (.agg (CS (mxF y z))), .inl (.agg (CS (mxF x (mxF y z)))), .inl (.agg (CS x)), .inl (.agg (CS y)), .inl (.agg (CS (mxF x y))), .inl (.agg (CS z)), .inl (.agg (CS (mxF (mxF x y) z))), .inl (.bool false), .inl (.bool false), .inl (.bool false), .inl (.agg (CS x)), .inl (.agg (CS y)), .inl (.agg (CS z)), .inl (.agg (CS (mnF y z))), .inl (.agg (CS (mnF x (mnF y z)))), .inl (.agg (CS x)), .inl (.agg (CS y)), .inl (.agg (CS (mnF x y))), .inl (.agg (CS z)), .inl (.agg (CS (mnF (mnF x y) z))), .inl (.bool false), .inl (.bool false)] : List Leaves) (by kernel_rfl) (by kernel_rfl) (by kernel_rfl) ?_ ?_
  · intro i hi
    rcases (show i = 0 ∨ i = 1 ∨ i = 2 ∨ i = 3 ∨ i = 4 ∨ i = 5 ∨ i = 6 ∨ i = 7 ∨ i = 8 ∨ i = 9 ∨ i = 10 ∨ i = 11 ∨ i = 12 ∨ i = 13 ∨ i = 14 ∨ i = 15 ∨ i = 16 ∨ i = 17 ∨ i = 18 ∨ i = 19 ∨ i = 20 ∨ i = 21 ∨ i = 22 ∨ i = 23 ∨ i = 24 ∨ i = 25 ∨ i = 26 ∨ i = 27 ∨ i = 28 ∨ i = 29 ∨ i = 30 ∨ i = 31 ∨ i = 32 ∨ i = 33 ∨ i = 34 ∨ i = 35 ∨ i = 36 ∨ i = 37 ∨ i = 38 ∨ i = 39 ∨ i = 40 ∨ i = 41 by simp at hi; omega) with rfl | rfl | rfl | rfl | rfl | rfl | rfl | rfl | rfl | rfl | rfl | rfl | rfl | rfl | rfl | rfl | rfl | rfl | rfl | rfl | rfl | rfl | rfl | rfl | rfl | rfl | rfl | rfl | rfl | rfl | rfl | rfl | rfl | rfl | rfl | rfl | rfl | rfl | rfl | rfl | rfl | rfl
    · intro a W hs ho hB
      have e7 : a.tmps[7]? = some (.pointer (some ⟨w.heap.size + 1 + 1 + 1, 0, none⟩)) := (ho 7 (by kernel_rfl)).trans rfl
      refine ⟨_, rfl, fun KR hKR => ?_⟩
      rw [if_pos (show Region.wanted _ _ = true from rfl)]
      refine wp_load_row 24 (.tmp 7) rfl _ (by simp [Act.eval, e7]) 24 _ (0, 0) _ ((hB.block _ (heap_lt hX)).trans hX) Try.underlying24 rfl (info24 _) ?_
      exact hKR _ _ rfl (Below.refl _ _) (fun h => by cases h)
    · intro a W hs ho hB
      have e8 : a.tmps[8]? = some (.pointer (some ⟨w.heap.size + 1 + 1 + 1 + 1, 0, none⟩)) := (ho 8 (by kernel_rfl)).trans rfl
      refine ⟨_, rfl, fun KR hKR => ?_⟩
      rw [if_pos (show Region.wanted _ _ = true from rfl)]
      refine wp_load_row 24 (.tmp 8) rfl _ (by simp [Act.eval, e8]) 24 _ (0, 0) _ ((hB.block _ (heap_lt hY)).trans hY) Try.underlying24 rfl (info24 _) ?_
      exact hKR _ _ rfl (Below.refl _ _) (fun h => by cases h)
    · intro a W hs ho hB
      have e13 : a.tmps[13]? = some (.agg (CS x)) := hs 0 (by kernel_rfl) _ rfl 13 rfl
      have e14 : a.tmps[14]? = some (.agg (CS y)) := hs 1 (by kernel_rfl) _ rfl 14 rfl
      refine ⟨_, rfl, fun KR hKR => ?_⟩
      rw [if_pos (show Region.wanted _ _ = true from rfl)]
      clear hs ho
      go_simp
      (go_at_call 7; refine (joinV _ _ _).mono ?_; rintro e w1 ⟨rfl, hb⟩)
      exact hKR _ _ rfl hb (fun h => by cases h)
    · intro a W hs ho hB
      have e8 : a.tmps[8]? = some (.pointer (some ⟨w.heap.size + 1 + 1 + 1 + 1, 0, none⟩)) := (ho 8 (by kernel_rfl)).trans rfl
      refine ⟨_, rfl, fun KR hKR => ?_⟩
      rw [if_pos (show Region.wanted _ _ = true from rfl)]
      refine wp_load_row 24 (.tmp 8) rfl _ (by simp [Act.eval, e8]) 24 _ (0, 0) _ ((hB.block _ (heap_lt hY)).trans hY) Try.underlying24 rfl (info24 _) ?_
      exact hKR _ _ rfl (Below.refl _ _) (fun h => by cases h)
    · intro a W hs ho hB
      have e7 : a.tmps[7]? = some (.pointer (some ⟨w.heap.size + 1 + 1 + 1, 0, none⟩)) := (ho 7 (by kernel_rfl)).trans rfl
      refine ⟨_, rfl, fun KR hKR => ?_⟩
      rw [if_pos (show Region.wanted _ _ = true from rfl)]
      refine wp_load_row 24 (.tmp 7) rfl _ (by simp [Act.eval, e7]) 24 _ (0, 0) _ ((hB.block _ (heap_lt hX)).trans hX) Try.underlying24 rfl (info24 _) ?_
      exact hKR _ _ rfl (Below.refl _ _) (fun h => by cases h)
    · intro a W hs ho hB
      have e16 : a.tmps[16]? = some (.agg (CS y)) := hs 3 (by kernel_rfl) _ rfl 16 rfl
      have e17 : a.tmps[17]? = some (.agg (CS x)) := hs 4 (by kernel_rfl) _ rfl 17 rfl
      refine ⟨_, rfl, fun KR hKR => ?_⟩
      rw [if_pos (show Region.wanted _ _ = true from rfl)]
      clear hs ho
      go_simp
      (go_at_call 7; refine (joinV _ _ _).mono ?_; rintro e w1 ⟨rfl, hb⟩)
      exact hKR _ _ rfl hb (fun h => by cases h)
    · intro a W hs ho hB
      have e15 : a.tmps[15]? = some (.agg (CS (mxF x y))) := hs 2 (by kernel_rfl) _ rfl 15 rfl
      have e18 : a.tmps[18]? = some (.agg (CS (mxF y x))) := hs 5 (by kernel_rfl) _ rfl 18 rfl
      refine ⟨_, rfl, fun KR hKR => ?_⟩
      rw [if_pos (show Region.wanted _ _ = true from rfl)]
      have E := H1.out
      clear hs ho
      go_simp
      exact hKR _ _ rfl (Below.refl _ _) (fun h => by cases h)
    · intro a W hs ho hB
      have e19 : a.tmps[19]? = some (.bool false) := hs 6 (by kernel_rfl) _ rfl 19 rfl
      refine ⟨_, rfl, fun KR hKR => ?_⟩
      rw [if_pos (show Region.wanted _ _ = true from rfl)]
      clear hs ho
      go_simp
      exact hKR _ _ rfl (Below.refl _ _) (fun h => by cases h)
    · intro a W hs ho hB
      have e7 : a.tmps[7]? = some (.pointer (some ⟨w.heap.size + 1 + 1 + 1, 0, none⟩)) := (ho 7 (by kernel_rfl)).trans rfl
      have e20 : a.tmps[20]? = some (.bool false) := hs 7 (by kernel_rfl) _ rfl 20 rfl
      refine ⟨_, rfl, fun KR hKR => ?_⟩
      rw [if_pos (wanted_of (j := 7) (d := 20) rfl rfl e20)]
      clear e20
      refine wp_load_row 24 (.tmp 7) rfl _ (by simp [Act.eval, e7]) 24 _ (0, 0) _ ((hB.block _ (heap_lt hX)).trans hX) Try.underlying24 rfl (info24 _) ?_
      exact hKR _ _ rfl (Below.refl _ _) (fun h => by cases h)
    · intro a W hs ho hB
      have e8 : a.tmps[8]? = some (.pointer (some ⟨w.heap.size + 1 + 1 + 1 + 1, 0, none⟩)) := (ho 8 (by kernel_rfl)).trans rfl
      have e20 : a.tmps[20]? = some (.bool false) := hs 7 (by kernel_rfl) _ rfl 20 rfl
      refine ⟨_, rfl, fun KR hKR => ?_⟩
      rw [if_pos (wanted_of (j := 7) (d := 20) rfl rfl e20)]
      clear e20
      refine wp_load_row 24 (.tmp 8) rfl _ (by simp [Act.eval, e8]) 24 _ (0, 0) _ ((hB.block _ (heap_lt hY)).trans hY) Try.underlying24 rfl (info24 _) ?_
      exact hKR _ _ rfl (Below.refl _ _) (fun h => by cases h)
    · intro a W hs ho hB
      have e21 : a.tmps[21]? = some (.agg (CS x)) := hs 8 (by kernel_rfl) _ rfl 21 rfl
      have e22 : a.tmps[22]? = some (.agg (CS y)) := hs 9 (by kernel_rfl) _ rfl 22 rfl
      have e20 : a.tmps[20]? = some (.bool false) := hs 7 (by kernel_rfl) _ rfl 20 rfl
      refine ⟨_, rfl, fun KR hKR => ?_⟩
      rw [if_pos (wanted_of (j := 7) (d := 20) rfl rfl e20)]
      clear e20
      clear hs ho
      go_simp
      (go_at_call 8; refine (meetV _ _ _).mono ?_; rintro e w1 ⟨rfl, hb⟩)
      exact hKR _ _ rfl hb (fun h => by cases h)
    · intro a W hs ho hB
      have e8 : a.tmps[8]? = some (.pointer (some ⟨w.heap.size + 1 + 1 + 1 + 1, 0, none⟩)) := (ho 8 (by kernel_rfl)).trans rfl
      have e20 : a.tmps[20]? = some (.bool false) := hs 7 (by kernel_rfl) _ rfl 20 rfl
      refine ⟨_, rfl, fun KR hKR => ?_⟩
      rw [if_pos (wanted_of (j := 7) (d := 20) rfl rfl e20)]
      clear e20
      refine wp_load_row 24 (.tmp 8) rfl _ (by simp [Act.eval, e8]) 24 _ (0, 0) _ ((hB.block _ (heap_lt hY)).trans hY) Try.underlying24 rfl (info24 _) ?_
      exact hKR _ _ rfl (Below.refl _ _) (fun h => by cases h)
    · intro a W hs ho hB
      have e7 : a.tmps[7]? = some (.pointer (some ⟨w.heap.size + 1 + 1 + 1, 0, none⟩)) := (ho 7 (by kernel_rfl)).trans rfl
      have e20 : a.tmps[20]? = some (.bool false) := hs 7 (by kernel_rfl) _ rfl 20 rfl
      refine ⟨_, rfl, fun KR hKR => ?_⟩
      rw [if_pos (wanted_of (j := 7) (d := 20) rfl rfl e20)]
      clear e20
      refine wp_load_row 24 (.tmp 7) rfl _ (by simp [Act.eval, e7]) 24 _ (0, 0) _ ((hB.block _ (heap_lt hX)).trans hX) Try.underlying24 rfl (info24 _) ?_
      exact hKR _ _ rfl (Below.refl _ _) (fun h => by cases h)
    · intro a W hs ho hB
      have e24 : a.tmps[24]? = some (.agg (CS y)) := hs 11 (by kernel_rfl) _ rfl 24 rfl
      have e25 : a.tmps[25]? = some (.agg (CS x)) := hs 12 (by kernel_rfl) _ rfl 25 rfl
      have e20 : a.tmps[20]? = some (.bool false) := hs 7 (by kernel_rfl) _ rfl 20 rfl
      refine ⟨_, rfl, fun KR hKR => ?_⟩
      rw [if_pos (wanted_of (j := 7) (d := 20) rfl rfl e20)]
      clear e20
      clear hs ho
      go_simp
      (go_at_call 8; refine (meetV _ _ _).mono ?_; rintro e w1 ⟨rfl, hb⟩)
      exact hKR _ _ rfl hb (fun h => by cases h)
    · intro a W hs ho hB
      have e23 : a.tmps[23]? = some (.agg (CS (mnF x y))) := hs 10 (by kernel_rfl) _ rfl 23 rfl
      have e26 : a.tmps[26]? = some (.agg (CS (mnF y x))) := hs 13 (by kernel_rfl) _ rfl 26 rfl
      have e20 : a.tmps[20]? = some (.bool false) := hs 7 (by kernel_rfl) _ rfl 20 rfl
      refine ⟨_, rfl, fun KR hKR => ?_⟩
      rw [if_pos (wanted_of (j := 7) (d := 20) rfl rfl e20)]
      clear e20
      have E := H2.out
      clear hs ho
      go_simp
      exact hKR _ _ rfl (Below.refl _ _) (fun h => by cases h)
    · intro a W hs ho hB
      have e20 : a.tmps[20]? = some (.bool false) := hs 7 (by kernel_rfl) _ rfl 20 rfl
      have e27 : a.tmps[27]? = some (.bool false) := hs 14 (by kernel_rfl) _ rfl 27 rfl
      refine ⟨_, rfl, fun KR hKR => ?_⟩
      rw [if_pos (show Region.wanted _ _ = true from rfl)]
      clear hs ho
      go_simp
      exact hKR _ _ rfl (Below.refl _ _) (fun h => by cases h)
    · intro a W hs ho hB
      have e28 : a.tmps[28]? = some (.bool false) := hs 15 (by kernel_rfl) _ rfl 28 rfl
      refine ⟨_, rfl, fun KR hKR => ?_⟩
      rw [if_pos (show Region.wanted _ _ = true from rfl)]
      clear hs ho
      go_simp
      exact hKR _ _ rfl (Below.refl _ _) (fun h => by cases h)
    · intro a W hs ho hB
      have e7 : a.tmps[7]? = some (.pointer (some ⟨w.heap.size + 1 + 1 + 1, 0, none⟩)) := (ho 7 (by kernel_rfl)).trans rfl
      have e29 : a.tmps[29]? = some (.bool false) := hs 16 (by kernel_rfl) _ rfl 29 rfl
      refine ⟨_, rfl, fun KR hKR => ?_⟩
      rw [if_pos (wanted_of (j := 16) (d := 29) rfl rfl e29)]
      clear e29
      refine wp_load_row 24 (.tmp 7) rfl _ (by simp [Act.eval, e7]) 24 _ (0, 0) _ ((hB.block _ (heap_lt hX)).trans hX) Try.underlying24 rfl (info24 _) ?_
      exact hKR _ _ rfl (Below.refl _ _) (fun h => by cases h)
    · intro a W hs ho hB
      have e8 : a.tmps[8]? = some (.pointer (some ⟨w.heap.size + 1 + 1 + 1 + 1, 0, none⟩)) := (ho 8 (by kernel_rfl)).trans rfl
      have e29 : a.tmps[29]? = some (.bool false) := hs 16 (by kernel_rfl) _ rfl 29 rfl
      refine ⟨_, rfl, fun KR hKR => ?_⟩
      rw [if_pos (wanted_of (j := 16) (d := 29) rfl rfl e29)]
      clear e29
      refine wp_load_row 24 (.tmp 8) rfl _ (by simp [Act.eval, e8]) 24 _ (0, 0) _ ((hB.block _ (heap_lt hY)).trans hY) Try.underlying24 rfl (info24 _) ?_
      exact hKR _ _ rfl (Below.refl _ _) (fun h => by cases h)
    · intro a W hs ho hB
      have e9 : a.tmps[9]? = some (.pointer (some ⟨w.heap.size + 1 + 1 + 1 + 1 + 1, 0, none⟩)) := (ho 9 (by kernel_rfl)).trans rfl
      have e29 : a.tmps[29]? = some (.bool false) := hs 16 (by kernel_rfl) _ rfl 29 rfl
      refine ⟨_, rfl, fun KR hKR => ?_⟩
      rw [if_pos (wanted_of (j := 16) (d := 29) rfl rfl e29)]
      clear e29
      refine wp_load_row 24 (.tmp 9) rfl _ (by simp [Act.eval, e9]) 24 _ (0, 0) _ ((hB.block _ (heap_lt hZ)).trans hZ) Try.underlying24 rfl (info24 _) ?_
      exact hKR _ _ rfl (Below.refl _ _) (fun h => by cases h)
    · intro a W hs ho hB
      have e31 : a.tmps[31]? = some (.agg (CS y)) := hs 18 (by kernel_rfl) _ rfl 31 rfl
      have e32 : a.tmps[32]? = some (.agg (CS z)) := hs 19 (by kernel_rfl) _ rfl 32 rfl
      have e29 : a.tmps[29]? = some (.bool false) := hs 16 (by kernel_rfl) _ rfl 29 rfl
      refine ⟨_, rfl, fun KR hKR => ?_⟩
      rw [if_pos (wanted_of (j := 16) (d := 29) rfl rfl e29)]
      clear e29
      clear hs ho
      go_simp
      (go_at_call 7; refine (joinV _ _ _).mono ?_; rintro e w1 ⟨rfl, hb⟩)
      exact hKR _ _ rfl hb (fun h => by cases h)
    · intro a W hs ho hB
      have e30 : a.tmps[30]? = some (.agg (CS x)) := hs 17 (by kernel_rfl) _ rfl 30 rfl
      have e33 : a.tmps[33]? = some (.agg (CS (mxF y z))) := hs 20 (by kernel_rfl) _ rfl 33 rfl
      have e29 : a.tmps[29]? = some (.bool false) := hs 16 (by kernel_rfl) _ rfl 29 rfl
      refine ⟨_, rfl, fun KR hKR => ?_⟩
      rw [if_pos (wanted_of (j := 16) (d := 29) rfl rfl e29)]
      clear e29
      clear hs ho
      go_simp
      (go_at_call 7; refine (joinV _ _ _).mono ?_; rintro e w1 ⟨rfl, hb⟩)
      exact hKR _ _ rfl hb (fun h => by cases h)
    · intro a W hs ho hB
      have e7 : a.tmps[7]? = some (.pointer (some ⟨w.heap.size + 1 + 1 + 1, 0, none⟩)) := (ho 7 (by kernel_rfl)).trans rfl
      have e29 : a.tmps[29]? = some (.bool false) := hs 16 (by kernel_rfl) _ rfl 29 rfl
      refine ⟨_, rfl, fun KR hKR => ?_⟩
      rw [if_pos (wanted_of (j := 16) (d := 29) rfl rfl e29)]
      clear e29
      refine wp_load_row 24 (.tmp 7) rfl _ (by simp [Act.eval, e7]) 24 _ (0, 0) _ ((hB.block _ (heap_lt hX)).trans hX) Try.underlying24 rfl (info24 _) ?_
      exact hKR _ _ rfl (Below.refl _ _) (fun h => by cases h)
    · intro a W hs ho hB
      have e8 : a.tmps[8]? = some (.pointer (some ⟨w.heap.size + 1 + 1 + 1 + 1, 0, none⟩)) := (ho 8 (by kernel_rfl)).trans rfl
      have e29 : a.tmps[29]? = some (.bool false) := hs 16 (by kernel_rfl) _ rfl 29 rfl
      refine ⟨_, rfl, fun KR hKR => ?_⟩
      rw [if_pos (wanted_of (j := 16) (d := 29) rfl rfl e29)]
      clear e29
      refine wp_load_row 24 (.tmp 8) rfl _ (by simp [Act.eval, e8]) 24 _ (0, 0) _ ((hB.block _ (heap_lt hY)).trans hY) Try.underlying24 rfl (info24 _) ?_
      exact hKR _ _ rfl (Below.refl _ _) (fun h => by cases h)
    · intro a W hs ho hB
      have e35 : a.tmps[35]? = some (.agg (CS x)) := hs 22 (by kernel_rfl) _ rfl 35 rfl
      have e36 : a.tmps[36]? = some (.agg (CS y)) := hs 23 (by kernel_rfl) _ rfl 36 rfl
      have e29 : a.tmps[29]? = some (.bool false) := hs 16 (by kernel_rfl) _ rfl 29 rfl
      refine ⟨_, rfl, fun KR hKR => ?_⟩
      rw [if_pos (wanted_of (j := 16) (d := 29) rfl rfl e29)]
      clear e29
      clear hs ho
      go_simp
      (go_at_call 7; refine (joinV _ _ _).mono ?_; rintro e w1 ⟨rfl, hb⟩)
      exact hKR _ _ rfl hb (fun h => by cases h)
    · intro a W hs ho hB
      have e9 : a.tmps[9]? = some (.pointer (some ⟨w.heap.size + 1 + 1 + 1 + 1 + 1, 0, none⟩)) := (ho 9 (by kernel_rfl)).trans rfl
      have e29 : a.tmps[29]? = some (.bool false) := hs 16 (by kernel_rfl) _ rfl 29 rfl
      refine ⟨_, rfl, fun KR hKR => ?_⟩
      rw [if_pos (wanted_of (j := 16) (d := 29) rfl rfl e29)]
      clear e29
      refine wp_load_row 24 (.tmp 9) rfl _ (by simp [Act.eval, e9]) 24 _ (0, 0) _ ((hB.block _ (heap_lt hZ)).trans hZ) Try.underlying24 rfl (info24 _) ?_
      exact hKR _ _ rfl (Below.refl _ _) (fun h => by cases h)
    · intro a W hs ho hB
      have e37 : a.tmps[37]? = some (.agg (CS (mxF x y))) := hs 24 (by kernel_rfl) _ rfl 37 rfl
      have e38 : a.tmps[38]? = some (.agg (CS z)) := hs 25 (by kernel_rfl) _ rfl 38 rfl
      have e29 : a.tmps[29]? = some (.bool false) := hs 16 (by kernel_rfl) _ rfl 29 rfl
      refine ⟨_, rfl, fun KR hKR => ?_⟩
      rw [if_pos (wanted_of (j := 16) (d := 29) rfl rfl e29)]
      clear e29
      clear hs ho
      go_simp
      (go_at_call 7; refine (joinV _ _ _).mono ?_; rintro e w1 ⟨rfl, hb⟩)
      exact hKR _ _ rfl hb (fun h => by cases h)
    · intro a W hs ho hB
      have e34 : a.tmps[34]? = some (.agg (CS (mxF x (mxF y z)))) := hs 21 (by kernel_rfl) _ rfl 34 rfl
      have e39 : a.tmps[39]? = some (.agg (CS (mxF (mxF x y) z))) := hs 26 (by kernel_rfl) _ rfl 39 rfl
      have e29 : a.tmps[29]? = some (.bool false) := hs 16 (by kernel_rfl) _ rfl 29 rfl
      refine ⟨_, rfl, fun KR hKR => ?_⟩
      rw [if_pos (wanted_of (j := 16) (d := 29) rfl rfl e29)]
      clear e29
      have E := H3.out
      clear hs ho
      go_simp
      exact hKR _ _ rfl (Below.refl _ _) (fun h => by cases h)
    · intro a W hs ho hB
      have e29 : a.tmps[29]? = some (.bool false) := hs 16 (by kernel_rfl) _ rfl 29 rfl
      have e40 : a.tmps[40]? = some (.bool false) := hs 27 (by kernel_rfl) _ rfl 40 rfl
      refine ⟨_, rfl, fun KR hKR => ?_⟩
      rw [if_pos (show Region.wanted _ _ = true from rfl)]
      clear hs ho
      go_simp
      exact hKR _ _ rfl (Below.refl _ _) (fun h => by cases h)
    · intro a W hs ho hB
      have e41 : a.tmps[41]? = some (.bool false) := hs 28 (by kernel_rfl) _ rfl 41 rfl
      refine ⟨_, rfl, fun KR hKR => ?_⟩
      rw [if_pos (show Region.wanted _ _ = true from rfl)]
      clear hs ho
      go_simp
      exact hKR _ _ rfl (Below.refl _ _) (fun h => by cases h)
    · intro a W hs ho hB
      have e7 : a.tmps[7]? = some (.pointer (some ⟨w.heap.size + 1 + 1 + 1, 0, none⟩)) := (ho 7 (by kernel_rfl)).trans rfl
      have e42 : a.tmps[42]? = some (.bool false) := hs 29 (by kernel_rfl) _ rfl 42 rfl
      refine ⟨_, rfl, fun KR hKR => ?_⟩
      rw [if_pos (wanted_of (j := 29) (d := 42) rfl rfl e42)]
      clear e42
      refine wp_load_row 24 (.tmp 7) rfl _ (by simp [Act.eval, e7]) 24 _ (0, 0) _ ((hB.block _ (heap_lt hX)).trans hX) Try.underlying24 rfl (info24 _) ?_
      exact hKR _ _ rfl (Below.refl _ _) (fun h => by cases h)
    · intro a W hs ho hB
      have e8 : a.tmps[8]? = some (.pointer (some ⟨w.heap.size + 1 + 1 + 1 + 1, 0, none⟩)) := (ho 8 (by kernel_rfl)).trans rfl
      have e42 : a.tmps[42]? = some (.bool false) := hs 29 (by kernel_rfl) _ rfl 42 rfl
      refine ⟨_, rfl, fun KR hKR => ?_⟩
      rw [if_pos (wanted_of (j := 29) (d := 42) rfl rfl e42)]
      clear e42
      refine wp_load_row 24 (.tmp 8) rfl _ (by simp [Act.eval, e8]) 24 _ (0, 0) _ ((hB.block _ (heap_lt hY)).trans hY) Try.underlying24 rfl (info24 _) ?_
      exact hKR _ _ rfl (Below.refl _ _) (fun h => by cases h)
    · intro a W hs ho hB
      have e9 : a.tmps[9]? = some (.pointer (some ⟨w.heap.size + 1 + 1 + 1 + 1 + 1, 0, none⟩)) := (ho 9 (by kernel_rfl)).trans rfl
      have e42 : a.tmps[42]? = some (.bool false) := hs 29 (by kernel_rfl) _ rfl 42 rfl
      refine ⟨_, rfl, fun KR hKR => ?_⟩
      rw [if_pos (wanted_of (j := 29) (d := 42) rfl rfl e42)]
      clear e42
      refine wp_load_row 24 (.tmp 9) rfl _ (by simp [Act.eval, e9]) 24 _ (0, 0) _ ((hB.block _ (heap_lt hZ)).trans hZ) Try.underlying24 rfl (info24 _) ?_
      exact hKR _ _ rfl (Below.refl _ _) (fun h => by cases h)
    · intro a W hs ho hB
      have e44 : a.tmps[44]? = some (.agg (CS y)) := hs 31 (by kernel_rfl) _ rfl 44 rfl
      have e45 : a.tmps[45]? = some (.agg (CS z)) := hs 32 (by kernel_rfl) _ rfl 45 rfl
      have e42 : a.tmps[42]? = some (.bool false) := hs 29 (by kernel_rfl) _ rfl 42 rfl
      refine ⟨_, rfl, fun KR hKR => ?_⟩
      rw [if_pos (wanted_of (j := 29) (d := 42) rfl rfl e42)]
      clear e42
      clear hs ho
      go_simp
      (go_at_call 8; refine (meetV _ _ _).mono ?_; rintro e w1 ⟨rfl, hb⟩)
      exact hKR _ _ rfl hb (fun h => by cases h)
    · intro a W hs ho hB
      have e43 : a.tmps[43]? = some (.agg (CS x)) := hs 30 (by kernel_rfl) _ rfl 43 rfl
      have e46 : a.tmps[46]? = some (.agg (CS (mnF y z))) := hs 33 (by kernel_rfl) _ rfl 46 rfl
      have e42 : a.tmps[42]? = some (.bool false) := hs 29 (by kernel_rfl) _ rfl 42 rfl
      refine ⟨_, rfl, fun KR hKR => ?_⟩
      rw [if_pos (wanted_of (j := 29) (d := 42) rfl rfl e42)]
      clear e42
      clear hs ho
      go_simp
      (go_at_call 8; refine (meetV _ _ _).mono ?_; rintro e w1 ⟨rfl, hb⟩)
      exact hKR _ _ rfl hb (fun h => by cases h)
    · intro a W hs ho hB
      have e7 : a.tmps[7]? = some (.pointer (some ⟨w.heap.size + 1 + 1 + 1, 0, none⟩)) := (ho 7 (by kernel_rfl)).trans rfl
      have e42 : a.tmps[42]? = some (.bool false) := hs 29 (by kernel_rfl) _ rfl 42 rfl
      refine ⟨_, rfl, fun KR hKR => ?_⟩
      rw [if_pos (wanted_of (j := 29) (d := 42) rfl rfl e42)]
      clear e42
      refine wp_load_row 24 (.tmp 7) rfl _ (by simp [Act.eval, e7]) 24 _ (0, 0) _ ((hB.block _ (heap_lt hX)).trans hX) Try.underlying24 rfl (info24 _) ?_
      exact hKR _ _ rfl (Below.refl _ _) (fun h => by cases h)
    · intro a W hs ho hB
      have e8 : a.tmps[8]? = some (.pointer (some ⟨w.heap.size + 1 + 1 + 1 + 1, 0, none⟩)) := (ho 8 (by kernel_rfl)).trans rfl
      have e42 : a.tmps[42]? = some (.bool false) := hs 29 (by kernel_rfl) _ rfl 42 rfl
      refine ⟨_, rfl, fun KR hKR => ?_⟩
      rw [if_pos (wanted_of (j := 29) (d := 42) rfl rfl e42)]
      clear e42
      refine wp_load_row 24 (.tmp 8) rfl _ (by simp [Act.eval, e8]) 24 _ (0, 0) _ ((hB.block _ (heap_lt hY)).trans hY) Try.underlying24 rfl (info24 _) ?_
      exact hKR _ _ rfl (Below.refl _ _) (fun h => by cases h)
    · intro a W hs ho hB
      have e48 : a.tmps[48]? = some (.agg (CS x)) := hs 35 (by kernel_rfl) _ rfl 48 rfl
      have e49 : a.tmps[49]? = some (.agg (CS y)) := hs 36 (by kernel_rfl) _ rfl 49 rfl
      have e42 : a.tmps[42]? = some (.bool false) := hs 29 (by kernel_rfl) _ rfl 42 rfl
      refine ⟨_, rfl, fun KR hKR => ?_⟩
      rw [if_pos (wanted_of (j := 29) (d := 42) rfl rfl e42)]
      clear e42
      clear hs ho
      go_simp
      (go_at_call 8; refine (meetV _ _ _).mono ?_; rintro e w1 ⟨rfl, hb⟩)
      exact hKR _ _ rfl hb (fun h => by cases h)
    · intro a W hs ho hB
      have e9 : a.tmps[9]? = some (.pointer (some ⟨w.heap.size + 1 + 1 + 1 + 1 + 1, 0, none⟩)) := (ho 9 (by kernel_rfl)).trans rfl
      have e42 : a.tmps[42]? = some (.bool false) := hs 29 (by kernel_rfl) _ rfl 42 rfl
      refine ⟨_, rfl, fun KR hKR => ?_⟩
      rw [if_pos (wanted_of (j := 29) (d := 42) rfl rfl e42)]
      clear e42
      refine wp_load_row 24 (.tmp 9) rfl _ (by simp [Act.eval, e9]) 24 _ (0, 0) _ ((hB.block _ (heap_lt hZ)).trans hZ) Try.underlying24 rfl (info24 _) ?_
      exact hKR _ _ rfl (Below.refl _ _) (fun h => by cases h)
    · intro a W hs ho hB
      have e50 : a.tmps[50]? = some (.agg (CS (mnF x y))) := hs 37 (by kernel_rfl) _ rfl 50 rfl
      have e51 : a.tmps[51]? = some (.agg (CS z)) := hs 38 (by kernel_rfl) _ rfl 51 rfl
      have e42 : a.tmps[42]? = some (.bool false) := hs 29 (by kernel_rfl) _ rfl 42 rfl
      refine ⟨_, rfl, fun KR hKR => ?_⟩
      rw [if_pos (wanted_of (j := 29) (d := 42) rfl rfl e42)]
      clear e42
      clear hs ho
      go_simp
      (go_at_call 8; refine (meetV _ _ _).mono ?_; rintro e w1 ⟨rfl, hb⟩)
      exact hKR _ _ rfl hb (fun h => by cases h)
    · intro a W hs ho hB
      have e47 : a.tmps[47]? = some (.agg (CS (mnF x (mnF y z)))) := hs 34 (by kernel_rfl) _ rfl 47 rfl
      have e52 : a.tmps[52]? = some (.agg (CS (mnF (mnF x y) z))) := hs 39 (by kernel_rfl) _ rfl 52 rfl
      have e42 : a.tmps[42]? = some (.bool false) := hs 29 (by kernel_rfl) _ rfl 42 rfl
      refine ⟨_, rfl, fun KR hKR => ?_⟩
      rw [if_pos (wanted_of (j := 29) (d := 42) rfl rfl e42)]
      clear e42
      have E := H4.out
      clear hs ho
      go_simp
      exact hKR _ _ rfl (Below.refl _ _) (fun h => by cases h)
    · intro a W hs ho hB
      have e42 : a.tmps[42]? = some (.bool false) := hs 29 (by kernel_rfl) _ rfl 42 rfl
      have e53 : a.tmps[53]? = some (.bool false) := hs 40 (by kernel_rfl) _ rfl 53 rfl
      refine ⟨_, rfl, fun KR hKR => ?_⟩
      rw [if_pos (show Region.wanted _ _ = true from rfl)]
      clear hs ho
      go_simp
      exact hKR _ _ rfl (Below.refl _ _) (fun h => by cases h)
  · intro vals W hv hne hB
    have v0 : vals 0 = .agg (CS x) := hv 0 (Nat.le_of_ble_eq_true rfl)
    have v1 : vals 1 = .agg (CS y) := hv 1 (Nat.le_of_ble_eq_true rfl)
    have v2 : vals 2 = .agg (CS (mxF x y)) := hv 2 (Nat.le_of_ble_eq_true rfl)
    have v3 : vals 3 = .agg (CS y) := hv 3 (Nat.le_of_ble_eq_true rfl)
    have v4 : vals 4 = .agg (CS x) := hv 4 (Nat.le_of_ble_eq_true rfl)
    have v5 : vals 5 = .agg (CS (mxF y x)) := hv 5 (Nat.le_of_ble_eq_true rfl)
    have v6 : vals 6 = .bool false := hv 6 (Nat.le_of_ble_eq_true rfl)
    have v7 : vals 7 = .bool false := hv 7 (Nat.le_of_ble_eq_true rfl)
    have v8 : vals 8 = .agg (CS x) := hv 8 (Nat.le_of_ble_eq_true rfl)
    have v9 : vals 9 = .agg (CS y) := hv 9 (Nat.le_of_ble_eq_true rfl)
    have v10 : vals 10 = .agg (CS (mnF x y)) := hv 10 (Nat.le_of_ble_eq_true rfl)
    have v11 : vals 11 = .agg (CS y) := hv 11 (Nat.le_of_ble_eq_true rfl)
    have v12 : vals 12 = .agg (CS x) := hv 12 (Nat.le_of_ble_eq_true rfl)
    have v13 : vals 13 = .agg (CS (mnF y x)) := hv 13 (Nat.le_of_ble_eq_true rfl)
    have v14 : vals 14 = .bool false := hv 14 (Nat.le_of_ble_eq_true rfl)
    have v15 : vals 15 = .bool false := hv 15 (Nat.le_of_ble_eq_true rfl)
    have v16 : vals 16 = .bool false := hv 16 (Nat.le_of_ble_eq_true rfl)
    have v17 : vals 17 = .agg (CS x) := hv 17 (Nat.le_of_ble_eq_true rfl)
    have v18 : vals 18 = .agg (CS y) := hv 18 (Nat.le_of_ble_eq_true rfl)
    have v19 : vals 19 = .agg (CS z) := hv 19 (Nat.le_of_ble_eq_true rfl)
    have v20 : vals 20 = .agg (CS (mxF y z)) := hv 20 (Nat.le_of_ble_eq_true rfl)
    have v21 : vals 21 = .agg (CS (mxF x (mxF y z))) := hv 21 (Nat.le_of_ble_eq_true rfl)
    have v22 : vals 22 = .agg (CS x) := hv 22 (Nat.le_of_ble_eq_true rfl)
    have v23 : vals 23 = .agg (CS y) := hv 23 (Nat.le_of_ble_eq_true rfl)
    have v24 : vals 24 = .agg (CS (mxF x y)) := hv 24 (Nat.le_of_ble_eq_true rfl)
    have v25 : vals 25 = .agg (CS z) := hv 25 (Nat.le_of_ble_eq_true rfl)
    have v26 : vals 26 = .agg (CS (mxF (mxF x y) z)) := hv 26 (Nat.le_of_ble_eq_true rfl)
    have v27 : vals 27 = .bool false := hv 27 (Nat.le_of_ble_eq_true rfl)
    have v28 : vals 28 = .bool false := hv 28 (Nat.le_of_ble_eq_true rfl)
    have v29 : vals 29 = .bool false := hv 29 (Nat.le_of_ble_eq_true rfl)
    have v30 : vals 30 = .agg (CS x) := hv 30 (Nat.le_of_ble_eq_true rfl)
    have v31 : vals 31 = .agg (CS y) := hv 31 (Nat.le_of_ble_eq_true rfl)
    have v32 : vals 32 = .agg (CS z) := hv 32 (Nat.le_of_ble_eq_true rfl)
    have v33 : vals 33 = .agg (CS (mnF y z)) := hv 33 (Nat.le_of_ble_eq_true rfl)
    have v34 : vals 34 = .agg (CS (mnF x (mnF y z))) := hv 34 (Nat.le_of_ble_eq_true rfl)
    have v35 : vals 35 = .agg (CS x) := hv 35 (Nat.le_of_ble_eq_true rfl)
    have v36 : vals 36 = .agg (CS y) := hv 36 (Nat.le_of_ble_eq_true rfl)
    have v37 : vals 37 = .agg (CS (mnF x y)) := hv 37 (Nat.le_of_ble_eq_true rfl)
    have v38 : vals 38 = .agg (CS z) := hv 38 (Nat.le_of_ble_eq_true rfl)
    have v39 : vals 39 = .agg (CS (mnF (mnF x y) z)) := hv 39 (Nat.le_of_ble_eq_true rfl)
    have v40 : vals 40 = .bool false := hv 40 (Nat.le_of_ble_eq_true rfl)
    have v41 : vals 41 = .bool false := hv 41 (Nat.le_of_ble_eq_true rfl)
    simp only [List.length_cons, List.length_nil, Nat.zero_add, Nat.reduceAdd, slots, if_true, dstOf, List.getElem?_toArray, List.getElem?_cons_zero, List.getElem?_cons_succ, Option.bind_some, Act.put, List.setIfInBounds_toArray, List.set_cons_zero, List.set_cons_succ, v0, v1, v2, v3, v4, v5, v6, v7, v8, v9, v10, v11, v12, v13, v14, v15, v16, v17, v18, v19, v20, v21, v22, v23, v24, v25, v26, v27, v28, v29, v30, v31, v32, v33, v34, v35, v36, v37, v38, v39, v40, v41]
    clear hv hne v0 v1 v2 v3 v4 v5 v6 v7 v8 v9 v10 v11 v12 v13 v14 v15 v16 v17 v18 v19 v20 v21 v22 v23 v24 v25 v26 v27 v28 v29 v30 v31 v32 v33 v34 v35 v36 v37 v38 v39 v40 v41
    change wpAny _ _ _ _ 0 _ _ _
    refine wpAny_done (by kernel_rfl) ?_ _
    replace hX := (hB.block _ (heap_lt hX)).trans hX
    replace hY := (hB.block _ (heap_lt hY)).trans hY
    replace hZ := (hB.block _ (heap_lt hZ)).trans hZ
    replace hBW := bel hBW hB
    clear hB
    go_wp2
    refine drawn_data (w := W) ([.inl (.agg (CS x)), .inl (.agg (CS x)), .inl (.agg (CS y)), .inl (.agg (CS (mnF x y))), .inl (.agg (CS (mxF x (mnF x y)))), .inl (.agg (CS x)), .inl (.bool false), .inl (.bool false), .inl (.agg (CS x)), .inl (.agg (CS x)), .inl (.agg (CS y)), .inl (.agg (CS (mxF x y))), .inl (.agg (CS (mnF x (mxF x y)))), .inl (.agg (CS x)), .inl (.bool false), .inl (.bool false)] : List Leaves) (by kernel_rfl) (by kernel_rfl) (by kernel_rfl) ?_ ?_
    · intro i hi
      rcases (show i = 0 ∨ i = 1 ∨ i = 2 ∨ i = 3 ∨ i = 4 ∨ i = 5 ∨ i = 6 ∨ i = 7 ∨ i = 8 ∨ i = 9 ∨ i = 10 ∨ i = 11 ∨ i = 12 ∨ i = 13 ∨ i = 14 ∨ i = 15 by simp at hi; omega) with rfl | rfl | rfl | rfl | rfl | rfl | rfl | rfl | rfl | rfl | rfl | rfl | rfl | rfl | rfl | rfl
      · intro a W hs ho hB
        have e7 : a.tmps[7]? = some (.pointer (some ⟨w.heap.size + 1 + 1 + 1, 0, none⟩)) := (ho 7 (by kernel_rfl)).trans rfl
        refine ⟨_, rfl, fun KR hKR => ?_⟩
        rw [if_pos (show Region.wanted _ _ = true from rfl)]
        refine wp_load_row 24 (.tmp 7) rfl _ (by simp [Act.eval, e7]) 24 _ (0, 0) _ ((hB.block _ (heap_lt hX)).trans hX) Try.underlying24 rfl (info24 _) ?_
        exact hKR _ _ rfl (Below.refl _ _) (fun h => by cases h)
      · intro a W hs ho hB
        have e7 : a.tmps[7]? = some (.pointer (some ⟨w.heap.size + 1 + 1 + 1, 0, none⟩)) := (ho 7 (by kernel_rfl)).trans rfl
        refine ⟨_, rfl, fun KR hKR => ?_⟩
        rw [if_pos (show Region.wanted _ _ = true from rfl)]
        refine wp_load_row 24 (.tmp 7) rfl _ (by simp [Act.eval, e7]) 24 _ (0, 0) _ ((hB.block _ (heap_lt hX)).trans hX) Try.underlying24 rfl (info24 _) ?_
        exact hKR _ _ rfl (Below.refl _ _) (fun h => by cases h)
      · intro a W hs ho hB
        have e8 : a.tmps[8]? = some (.pointer (some ⟨w.heap.size + 1 + 1 + 1 + 1, 0, none⟩)) := (ho 8 (by kernel_rfl)).trans rfl
        refine ⟨_, rfl, fun KR hKR => ?_⟩
        rw [if_pos (show Region.wanted _ _ = true from rfl)]
        refine wp_load_row 24 (.tmp 8) rfl _ (by simp [Act.eval, e8]) 24 _ (0, 0) _ ((hB.block _ (heap_lt hY)).trans hY) Try.underlying24 rfl (info24 _) ?_
        exact hKR _ _ rfl (Below.refl _ _) (fun h => by cases h)
      · intro a W hs ho hB
        have e56 : a.tmps[56]? = some (.agg (CS x)) := hs 1 (by kernel_rfl) _ rfl 56 rfl
        have e57 : a.tmps[57]? = some (.agg (CS y)) := hs 2 (by kernel_rfl) _ rfl 57 rfl
        refine ⟨_, rfl, fun KR hKR => ?_⟩
        rw [if_pos (show Region.wanted _ _ = true from rfl)]
        clear hs ho
        go_simp
        (go_at_call 8; refine (meetV _ _ _).mono ?_; rintro e w1 ⟨rfl, hb⟩)
        exact hKR _ _ rfl hb (fun h => by cases h)
      · intro a W hs ho hB
        have e55 : a.tmps[55]? = some (.agg (CS x)) := hs 0 (by kernel_rfl) _ rfl 55 rfl
        have e58 : a.tmps[58]? = some (.agg (CS (mnF x y))) := hs 3 (by kernel_rfl) _ rfl 58 rfl
        refine ⟨_, rfl, fun KR hKR => ?_⟩
        rw [if_pos (show Region.wanted _ _ = true from rfl)]
        clear hs ho
        go_simp
        (go_at_call 7; refine (joinV _ _ _).mono ?_; rintro e w1 ⟨rfl, hb⟩)
        exact hKR _ _ rfl hb (fun h => by cases h)
      · intro a W hs ho hB
        have e7 : a.tmps[7]? = some (.pointer (some ⟨w.heap.size + 1 + 1 + 1, 0, none⟩)) := (ho 7 (by kernel_rfl)).trans rfl
        refine ⟨_, rfl, fun KR hKR => ?_⟩
        rw [if_pos (show Region.wanted _ _ = true from rfl)]
        refine wp_load_row 24 (.tmp 7) rfl _ (by simp [Act.eval, e7]) 24 _ (0, 0) _ ((hB.block _ (heap_lt hX)).trans hX) Try.underlying24 rfl (info24 _) ?_
        exact hKR _ _ rfl (Below.refl _ _) (fun h => by cases h)
      · intro a W hs ho hB
        have e59 : a.tmps[59]? = some (.agg (CS (mxF x (mnF x y)))) := hs 4 (by kernel_rfl) _ rfl 59 rfl
        have e60 : a.tmps[60]? = some (.agg (CS x)) := hs 5 (by kernel_rfl) _ rfl 60 rfl
        refine ⟨_, rfl, fun KR hKR => ?_⟩
        rw [if_pos (show Region.wanted _ _ = true from rfl)]
        have E := H5.out
        clear hs ho
        go_simp
        exact hKR _ _ rfl (Below.refl _ _) (fun h => by cases h)
      · intro a W hs ho hB
        have e61 : a.tmps[61]? = some (.bool false) := hs 6 (by kernel_rfl) _ rfl 61 rfl
        refine ⟨_, rfl, fun KR hKR => ?_⟩
        rw [if_pos (show Region.wanted _ _ = true from rfl)]
        clear hs ho
        go_simp
        exact hKR _ _ rfl (Below.refl _ _) (fun h => by cases h)
      · intro a W hs ho hB
        have e7 : a.tmps[7]? = some (.pointer (some ⟨w.heap.size + 1 + 1 + 1, 0, none⟩)) := (ho 7 (by kernel_rfl)).trans rfl
        have e62 : a.tmps[62]? = some (.bool false) := hs 7 (by kernel_rfl) _ rfl 62 rfl
        refine ⟨_, rfl, fun KR hKR => ?_⟩
        rw [if_pos (wanted_of (j := 7) (d := 62) rfl rfl e62)]
        clear e62
        refine wp_load_row 24 (.tmp 7) rfl _ (by simp [Act.eval, e7]) 24 _ (0, 0) _ ((hB.block _ (heap_lt hX)).trans hX) Try.underlying24 rfl (info24 _) ?_
        exact hKR _ _ rfl (Below.refl _ _) (fun h => by cases h)
      · intro a W hs ho hB
        have e7 : a.tmps[7]? = some (.pointer (some ⟨w.heap.size + 1 + 1 + 1, 0, none⟩)) := (ho 7 (by kernel_rfl)).trans rfl
        have e62 : a.tmps[62]? = some (.bool false) := hs 7 (by kernel_rfl) _ rfl 62 rfl
        refine ⟨_, rfl, fun KR hKR => ?_⟩
        rw [if_pos (wanted_of (j := 7) (d := 62) rfl rfl e62)]
        clear e62
        refine wp_load_row 24 (.tmp 7) rfl _ (by simp [Act.eval, e7]) 24 _ (0, 0) _ ((hB.block _ (heap_lt hX)).trans hX) Try.underlying24 rfl (info24 _) ?_
        exact hKR _ _ rfl (Below.refl _ _) (fun h => by cases h)
      · intro a W hs ho hB
        have e8 : a.tmps[8]? = some (.pointer (some ⟨w.heap.size + 1 + 1 + 1 + 1, 0, none⟩)) := (ho 8 (by kernel_rfl)).trans rfl
        have e62 : a.tmps[62]? = some (.bool false) := hs 7 (by kernel_rfl) _ rfl 62 rfl
        refine ⟨_, rfl, fun KR hKR => ?_⟩
        rw [if_pos (wanted_of (j := 7) (d := 62) rfl rfl e62)]
        clear e62
        refine wp_load_row 24 (.tmp 8) rfl _ (by simp [Act.eval, e8]) 24 _ (0, 0) _ ((hB.block _ (heap_lt hY)).trans hY) Try.underlying24 rfl (info24 _) ?_
        exact hKR _ _ rfl (Below.refl _ _) (fun h => by cases h)
      · intro a W hs ho hB
        have e64 : a.tmps[64]? = some (.agg (CS x)) := hs 9 (by kernel_rfl) _ rfl 64 rfl
        have e65 : a.tmps[65]? = some (.agg (CS y)) := hs 10 (by kernel_rfl) _ rfl 65 rfl
        have e62 : a.tmps[62]? = some (.bool false) := hs 7 (by kernel_rfl) _ rfl 62 rfl
        refine ⟨_, rfl, fun KR hKR => ?_⟩
        rw [if_pos (wanted_of (j := 7) (d := 62) rfl rfl e62)]
        clear e62
        clear hs ho
        go_simp
        (go_at_call 7; refine (joinV _ _ _).mono ?_; rintro e w1 ⟨rfl, hb⟩)
        exact hKR _ _ rfl hb (fun h => by cases h)
      · intro a W hs ho hB
        have e63 : a.tmps[63]? = some (.agg (CS x)) := hs 8 (by kernel_rfl) _ rfl 63 rfl
        have e66 : a.tmps[66]? = some (.agg (CS (mxF x y))) := hs 11 (by kernel_rfl) _ rfl 66 rfl
        have e62 : a.tmps[62]? = some (.bool false) := hs 7 (by kernel_rfl) _ rfl 62 rfl
        refine ⟨_, rfl, fun KR hKR => ?_⟩
        rw [if_pos (wanted_of (j := 7) (d := 62) rfl rfl e62)]
        clear e62
        clear hs ho
        go_simp
        (go_at_call 8; refine (meetV _ _ _).mono ?_; rintro e w1 ⟨rfl, hb⟩)
        exact hKR _ _ rfl hb (fun h => by cases h)
      · intro a W hs ho hB
        have e7 : a.tmps[7]? = some (.pointer (some ⟨w.heap.size + 1 + 1 + 1, 0, none⟩)) := (ho 7 (by kernel_rfl)).trans rfl
        have e62 : a.tmps[62]? = some (.bool false) := hs 7 (by kernel_rfl) _ rfl 62 rfl
        refine ⟨_, rfl, fun KR hKR => ?_⟩
        rw [if_pos (wanted_of (j := 7) (d := 62) rfl rfl e62)]
        clear e62
        refine wp_load_row 24 (.tmp 7) rfl _ (by simp [Act.eval, e7]) 24 _ (0, 0) _ ((hB.block _ (heap_lt hX)).trans hX) Try.underlying24 rfl (info24 _) ?_
        exact hKR _ _ rfl (Below.refl _ _) (fun h => by cases h)
      · intro a W hs ho hB
        have e67 : a.tmps[67]? = some (.agg (CS (mnF x (mxF x y)))) := hs 12 (by kernel_rfl) _ rfl 67 rfl
        have e68 : a.tmps[68]? = some (.agg (CS x)) := hs 13 (by kernel_rfl) _ rfl 68 rfl
        have e62 : a.tmps[62]? = some (.bool false) := hs 7 (by kernel_rfl) _ rfl 62 rfl
        refine ⟨_, rfl, fun KR hKR => ?_⟩
        rw [if_pos (wanted_of (j := 7) (d := 62) rfl rfl e62)]
        clear e62
        have E := H6.out
        clear hs ho
        go_simp
        exact hKR _ _ rfl (Below.refl _ _) (fun h => by cases h)
      · intro a W hs ho hB
        have e62 : a.tmps[62]? = some (.bool false) := hs 7 (by kernel_rfl) _ rfl 62 rfl
        have e69 : a.tmps[69]? = some (.bool false) := hs 14 (by kernel_rfl) _ rfl 69 rfl
        refine ⟨_, rfl, fun KR hKR => ?_⟩
        rw [if_pos (show Region.wanted _ _ = true from rfl)]
        clear hs ho
        go_simp
        exact hKR _ _ rfl (Below.refl _ _) (fun h => by cases h)
    · intro vals W hv hne hB
      have v0 : vals 0 = .agg (CS x) := hv 0 (Nat.le_of_ble_eq_true rfl)
      have v1 : vals 1 = .agg (CS x) := hv 1 (Nat.le_of_ble_eq_true rfl)
      have v2 : vals 2 = .agg (CS y) := hv 2 (Nat.le_of_ble_eq_true rfl)
      have v3 : vals 3 = .agg (CS (mnF x y)) := hv 3 (Nat.le_of_ble_eq_true rfl)
      have v4 : vals 4 = .agg (CS (mxF x (mnF x y))) := hv 4 (Nat.le_of_ble_eq_true rfl)
      have v5 : vals 5 = .agg (CS x) := hv 5 (Nat.le_of_ble_eq_true rfl)
      have v6 : vals 6 = .bool false := hv 6 (Nat.le_of_ble_eq_true rfl)
      have v7 : vals 7 = .bool false := hv 7 (Nat.le_of_ble_eq_true rfl)
      have v8 : vals 8 = .agg (CS x) := hv 8 (Nat.le_of_ble_eq_true rfl)
      have v9 : vals 9 = .agg (CS x) := hv 9 (Nat.le_of_ble_eq_true rfl)
      have v10 : vals 10 = .agg (CS y) := hv 10 (Nat.le_of_ble_eq_true rfl)
      have v11 : vals 11 = .agg (CS (mxF x y)) := hv 11 (Nat.le_of_ble_eq_true rfl)
      have v12 : vals 12 = .agg (CS (mnF x (mxF x y))) := hv 12 (Nat.le_of_ble_eq_true rfl)
      have v13 : vals 13 = .agg (CS x) := hv 13 (Nat.le_of_ble_eq_true rfl)
      have v14 : vals 14 = .bool false := hv 14 (Nat.le_of_ble_eq_true rfl)
      have v15 : vals 15 = .bool false := hv 15 (Nat.le_of_ble_eq_true rfl)
      simp only [List.length_cons, List.length_nil, Nat.zero_add, Nat.reduceAdd, slots, if_true, dstOf, List.getElem?_toArray, List.getElem?_cons_zero, List.getElem?_cons_succ, Option.bind_some, Act.put, List.setIfInBounds_toArray, List.set_cons_zero, List.set_cons_succ, v0, v1, v2, v3, v4, v5, v6, v7, v8, v9, v10, v11, v12, v13, v14, v15]
      clear hv hne v0 v1 v2 v3 v4 v5 v6 v7 v8 v9 v10 v11 v12 v13 v14 v15
      change wpAny _ _ _ _ 0 _ _ _
      refine wpAny_done (by kernel_rfl) ?_ _
      replace hX := (hB.block _ (heap_lt hX)).trans hX
      replace hY := (hB.block _ (heap_lt hY)).trans hY
      replace hZ := (hB.block _ (heap_lt hZ)).trans hZ
      replace hBW := bel hBW hB
      clear hB
      go_wp2
      refine drawn_data (w := W) ([.inl (.agg (CS x)), .inl (.agg (CS y)), .inl (.bool false), .inl (.agg (CS x)), .inl (.agg (CS y)), .inl (.agg (CS (mxF x y))), .inl (.agg (CS x)), .inl (.bool false), .inl (.bool true), .inl (.bool true), .inl (.agg (CS x)), .inl (.agg (CS y)), .inl (.int .i64 n), .inl (.bool (n == 0)), .inl (.agg (CS x)), .inl (.agg (CS y)), .inl (.bool (n == 0)), .inl (.bool true), .inl (.bool true), .inl (.bool true), .inl (.agg (CS x)), .inl (.agg (CS y)), .inl (.int .i64 n), .inl (.bool false), .inl (.agg (CS x)), .inl (.agg (CS y)), .inl (.bool false), .inl (.bool true), .inl (.bool true), .inl (.agg (CS y)), .inl (.agg (CS x)), .inl (.bool true), .inl (.bool false), .inl (.bool false), .inl (.bool true), .inl (.bool true), .inl (.bool true), .inl (.bool true), .inl (.bool true), .inl (.bool true)] : List Leaves) (by kernel_rfl) (by kernel_rfl) (by kernel_rfl) ?_ ?_
      · intro i hi
        rcases (show i = 0 ∨ i = 1 ∨ i = 2 ∨ i = 3 ∨ i = 4 ∨ i = 5 ∨ i = 6 ∨ i = 7 ∨ i = 8 ∨ i = 9 ∨ i = 10 ∨ i = 11 ∨ i = 12 ∨ i = 13 ∨ i = 14 ∨ i = 15 ∨ i = 16 ∨ i = 17 ∨ i = 18 ∨ i = 19 ∨ i = 20 ∨ i = 21 ∨ i = 22 ∨ i = 23 ∨ i = 24 ∨ i = 25 ∨ i = 26 ∨ i = 27 ∨ i = 28 ∨ i = 29 ∨ i = 30 ∨ i = 31 ∨ i = 32 ∨ i = 33 ∨ i = 34 ∨ i = 35 ∨ i = 36 ∨ i = 37 ∨ i = 38 ∨ i = 39 by simp at hi; omega) with rfl | rfl | rfl | rfl | rfl | rfl | rfl | rfl | rfl | rfl | rfl | rfl | rfl | rfl | rfl | rfl | rfl | rfl | rfl | rfl | rfl | rfl | rfl | rfl | rfl | rfl | rfl | rfl | rfl | rfl | rfl | rfl | rfl | rfl | rfl | rfl | rfl | rfl | rfl | rfl
        · intro a W hs ho hB
          have e7 : a.tmps[7]? = some (.pointer (some ⟨w.heap.size + 1 + 1 + 1, 0, none⟩)) := (ho 7 (by kernel_rfl)).trans rfl
          refine ⟨_, rfl, fun KR hKR => ?_⟩
          rw [if_pos (show Region.wanted _ _ = true from rfl)]
          refine wp_load_row 24 (.tmp 7) rfl _ (by simp [Act.eval, e7]) 24 _ (0, 0) _ ((hB.block _ (heap_lt hX)).trans hX) Try.underlying24 rfl (info24 _) ?_
          exact hKR _ _ rfl (Below.refl _ _) (fun h => by cases h)
        · intro a W hs ho hB
          have e8 : a.tmps[8]? = some (.pointer (some ⟨w.heap.size + 1 + 1 + 1 + 1, 0, none⟩)) := (ho 8 (by kernel_rfl)).trans rfl
          refine ⟨_, rfl, fun KR hKR => ?_⟩
          rw [if_pos (show Region.wanted _ _ = true from rfl)]
          refine wp_load_row 24 (.tmp 8) rfl _ (by simp [Act.eval, e8]) 24 _ (0, 0) _ ((hB.block _ (heap_lt hY)).trans hY) Try.underlying24 rfl (info24 _) ?_
          exact hKR _ _ rfl (Below.refl _ _) (fun h => by cases h)
        · intro a W hs ho hB
          have e71 : a.tmps[71]? = some (.agg (CS x)) := hs 0 (by kernel_rfl) _ rfl 71 rfl
          have e72 : a.tmps[72]? = some (.agg (CS y)) := hs 1 (by kernel_rfl) _ rfl 72 rfl
          refine ⟨_, rfl, fun KR hKR => ?_⟩
          rw [if_pos (show Region.wanted _ _ = true from rfl)]
          clear hs ho
          (go_simp; (go_at_call 9; refine (coversV_is _ _ _ K1.out _).mono ?_; rintro e w1 ⟨rfl, hb⟩); exact hKR _ _ rfl hb (fun h => by cases h))
        · intro a W hs ho hB
          have e7 : a.tmps[7]? = some (.pointer (some ⟨w.heap.size + 1 + 1 + 1, 0, none⟩)) := (ho 7 (by kernel_rfl)).trans rfl
          refine ⟨_, rfl, fun KR hKR => ?_⟩
          rw [if_pos (show Region.wanted _ _ = true from rfl)]
          refine wp_load_row 24 (.tmp 7) rfl _ (by simp [Act.eval, e7]) 24 _ (0, 0) _ ((hB.block _ (heap_lt hX)).trans hX) Try.underlying24 rfl (info24 _) ?_
          exact hKR _ _ rfl (Below.refl _ _) (fun h => by cases h)
        · intro a W hs ho hB
          have e8 : a.tmps[8]? = some (.pointer (some ⟨w.heap.size + 1 + 1 + 1 + 1, 0, none⟩)) := (ho 8 (by kernel_rfl)).trans rfl
          refine ⟨_, rfl, fun KR hKR => ?_⟩
          rw [if_pos (show Region.wanted _ _ = true from rfl)]
          refine wp_load_row 24 (.tmp 8) rfl _ (by simp [Act.eval, e8]) 24 _ (0, 0) _ ((hB.block _ (heap_lt hY)).trans hY) Try.underlying24 rfl (info24 _) ?_
          exact hKR _ _ rfl (Below.refl _ _) (fun h => by cases h)
        · intro a W hs ho hB
          have e74 : a.tmps[74]? = some (.agg (CS x)) := hs 3 (by kernel_rfl) _ rfl 74 rfl
          have e75 : a.tmps[75]? = some (.agg (CS y)) := hs 4 (by kernel_rfl) _ rfl 75 rfl
          refine ⟨_, rfl, fun KR hKR => ?_⟩
          rw [if_pos (show Region.wanted _ _ = true from rfl)]
          clear hs ho
          go_simp
          (go_at_call 7; refine (joinV _ _ _).mono ?_; rintro e w1 ⟨rfl, hb⟩)
          exact hKR _ _ rfl hb (fun h => by cases h)
        · intro a W hs ho hB
          have e7 : a.tmps[7]? = some (.pointer (some ⟨w.heap.size + 1 + 1 + 1, 0, none⟩)) := (ho 7 (by kernel_rfl)).trans rfl
          refine ⟨_, rfl, fun KR hKR => ?_⟩
          rw [if_pos (show Region.wanted _ _ = true from rfl)]
          refine wp_load_row 24 (.tmp 7) rfl _ (by simp [Act.eval, e7]) 24 _ (0, 0) _ ((hB.block _ (heap_lt hX)).trans hX) Try.underlying24 rfl (info24 _) ?_
          exact hKR _ _ rfl (Below.refl _ _) (fun h => by cases h)
        · intro a W hs ho hB
          have e76 : a.tmps[76]? = some (.agg (CS (mxF x y))) := hs 5 (by kernel_rfl) _ rfl 76 rfl
          have e77 : a.tmps[77]? = some (.agg (CS x)) := hs 6 (by kernel_rfl) _ rfl 77 rfl
          refine ⟨_, rfl, fun KR hKR => ?_⟩
          rw [if_pos (show Region.wanted _ _ = true from rfl)]
          have E := K1.out
          clear hs ho
          go_simp
          exact hKR _ _ rfl (Below.refl _ _) (fun h => by cases h)
        · intro a W hs ho hB
          have e73 : a.tmps[73]? = some (.bool false) := hs 2 (by kernel_rfl) _ rfl 73 rfl
          have e78 : a.tmps[78]? = some (.bool false) := hs 7 (by kernel_rfl) _ rfl 78 rfl
          refine ⟨_, rfl, fun KR hKR => ?_⟩
          rw [if_pos (show Region.wanted _ _ = true from rfl)]
          clear hs ho
          go_simp
          exact hKR _ _ rfl (Below.refl _ _) (fun h => by cases h)
        · intro a W hs ho hB
          have e79 : a.tmps[79]? = some (.bool true) := hs 8 (by kernel_rfl) _ rfl 79 rfl
          refine ⟨_, rfl, fun KR hKR => ?_⟩
          rw [if_pos (show Region.wanted _ _ = true from rfl)]
          clear hs ho
          go_simp
          exact hKR _ _ rfl (Below.refl _ _) (fun h => by cases h)
        · intro a W hs ho hB
          have e7 : a.tmps[7]? = some (.pointer (some ⟨w.heap.size + 1 + 1 + 1, 0, none⟩)) := (ho 7 (by kernel_rfl)).trans rfl
          have e80 : a.tmps[80]? = some (.bool true) := hs 9 (by kernel_rfl) _ rfl 80 rfl
          refine ⟨_, rfl, fun KR hKR => ?_⟩
          rw [if_pos (wanted_of (j := 9) (d := 80) rfl rfl e80)]
          clear e80
          refine wp_load_row 24 (.tmp 7) rfl _ (by simp [Act.eval, e7]) 24 _ (0, 0) _ ((hB.block _ (heap_lt hX)).trans hX) Try.underlying24 rfl (info24 _) ?_
          exact hKR _ _ rfl (Below.refl _ _) (fun h => by cases h)
        · intro a W hs ho hB
          have e8 : a.tmps[8]? = some (.pointer (some ⟨w.heap.size + 1 + 1 + 1 + 1, 0, none⟩)) := (ho 8 (by kernel_rfl)).trans rfl
          have e80 : a.tmps[80]? = some (.bool true) := hs 9 (by kernel_rfl) _ rfl 80 rfl
          refine ⟨_, rfl, fun KR hKR => ?_⟩
          rw [if_pos (wanted_of (j := 9) (d := 80) rfl rfl e80)]
          clear e80
          refine wp_load_row 24 (.tmp 8) rfl _ (by simp [Act.eval, e8]) 24 _ (0, 0) _ ((hB.block _ (heap_lt hY)).trans hY) Try.underlying24 rfl (info24 _) ?_
          exact hKR _ _ rfl (Below.refl _ _) (fun h => by cases h)
        · intro a W hs ho hB
          have e81 : a.tmps[81]? = some (.agg (CS x)) := hs 10 (by kernel_rfl) _ rfl 81 rfl
          have e82 : a.tmps[82]? = some (.agg (CS y)) := hs 11 (by kernel_rfl) _ rfl 82 rfl
          have e80 : a.tmps[80]? = some (.bool true) := hs 9 (by kernel_rfl) _ rfl 80 rfl
          refine ⟨_, rfl, fun KR hKR => ?_⟩
          rw [if_pos (wanted_of (j := 9) (d := 80) rfl rfl e80)]
          clear e80
          clear hs ho
          go_simp
          (go_at_call 10; refine (cmpV_is _ _ _ KC.out _).mono ?_; rintro e w1 ⟨rfl, hb⟩)
          exact hKR _ _ rfl hb (fun h => by cases h)
        · intro a W hs ho hB
          have e83 : a.tmps[83]? = some (.int .i64 n) := hs 12 (by kernel_rfl) _ rfl 83 rfl
          have e80 : a.tmps[80]? = some (.bool true) := hs 9 (by kernel_rfl) _ rfl 80 rfl
          refine ⟨_, rfl, fun KR hKR => ?_⟩
          rw [if_pos (wanted_of (j := 9) (d := 80) rfl rfl e80)]
          clear e80
          clear hs ho
          go_simp
          exact hKR _ _ rfl (Below.refl _ _) (fun h => by cases h)
        · intro a W hs ho hB
          have e7 : a.tmps[7]? = some (.pointer (some ⟨w.heap.size + 1 + 1 + 1, 0, none⟩)) := (ho 7 (by kernel_rfl)).trans rfl
          have e80 : a.tmps[80]? = some (.bool true) := hs 9 (by kernel_rfl) _ rfl 80 rfl
          refine ⟨_, rfl, fun KR hKR => ?_⟩
          rw [if_pos (wanted_of (j := 9) (d := 80) rfl rfl e80)]
          clear e80
          refine wp_load_row 24 (.tmp 7) rfl _ (by simp [Act.eval, e7]) 24 _ (0, 0) _ ((hB.block _ (heap_lt hX)).trans hX) Try.underlying24 rfl (info24 _) ?_
          exact hKR _ _ rfl (Below.refl _ _) (fun h => by cases h)
        · intro a W hs ho hB
          have e8 : a.tmps[8]? = some (.pointer (some ⟨w.heap.size + 1 + 1 + 1 + 1, 0, none⟩)) := (ho 8 (by kernel_rfl)).trans rfl
          have e80 : a.tmps[80]? = some (.bool true) := hs 9 (by kernel_rfl) _ rfl 80 rfl
          refine ⟨_, rfl, fun KR hKR => ?_⟩
          rw [if_pos (wanted_of (j := 9) (d := 80) rfl rfl e80)]
          clear e80
          refine wp_load_row 24 (.tmp 8) rfl _ (by simp [Act.eval, e8]) 24 _ (0, 0) _ ((hB.block _ (heap_lt hY)).trans hY) Try.underlying24 rfl (info24 _) ?_
          exact hKR _ _ rfl (Below.refl _ _) (fun h => by cases h)
        · intro a W hs ho hB
          have e85 : a.tmps[85]? = some (.agg (CS x)) := hs 14 (by kernel_rfl) _ rfl 85 rfl
          have e86 : a.tmps[86]? = some (.agg (CS y)) := hs 15 (by kernel_rfl) _ rfl 86 rfl
          have e80 : a.tmps[80]? = some (.bool true) := hs 9 (by kernel_rfl) _ rfl 80 rfl
          refine ⟨_, rfl, fun KR hKR => ?_⟩
          rw [if_pos (wanted_of (j := 9) (d := 80) rfl rfl e80)]
          clear e80
          have E := KS.out
          clear hs ho
          go_simp
          exact hKR _ _ rfl (Below.refl _ _) (fun h => by cases h)
        · intro a W hs ho hB
          have e84 : a.tmps[84]? = some (.bool (n == 0)) := hs 13 (by kernel_rfl) _ rfl 84 rfl
          have e87 : a.tmps[87]? = some (.bool (n == 0)) := hs 16 (by kernel_rfl) _ rfl 87 rfl
          have e80 : a.tmps[80]? = some (.bool true) := hs 9 (by kernel_rfl) _ rfl 80 rfl
          refine ⟨_, rfl, fun KR hKR => ?_⟩
          rw [if_pos (wanted_of (j := 9) (d := 80) rfl rfl e80)]
          clear e80
          clear hs ho
          go_simp
          exact hKR _ _ rfl (Below.refl _ _) (fun h => by cases h)
        · intro a W hs ho hB
          have e80 : a.tmps[80]? = some (.bool true) := hs 9 (by kernel_rfl) _ rfl 80 rfl
          have e88 : a.tmps[88]? = some (.bool true) := hs 17 (by kernel_rfl) _ rfl 88 rfl
          refine ⟨_, rfl, fun KR hKR => ?_⟩
          rw [if_pos (show Region.wanted _ _ = true from rfl)]
          clear hs ho
          go_simp
          exact hKR _ _ rfl (Below.refl _ _) (fun h => by cases h)
        · intro a W hs ho hB
          have e89 : a.tmps[89]? = some (.bool true) := hs 18 (by kernel_rfl) _ rfl 89 rfl
          refine ⟨_, rfl, fun KR hKR => ?_⟩
          rw [if_pos (show Region.wanted _ _ = true from rfl)]
          clear hs ho
          go_simp
          exact hKR _ _ rfl (Below.refl _ _) (fun h => by cases h)
        · intro a W hs ho hB
          have e7 : a.tmps[7]? = some (.pointer (some ⟨w.heap.size + 1 + 1 + 1, 0, none⟩)) := (ho 7 (by kernel_rfl)).trans rfl
          have e90 : a.tmps[90]? = some (.bool true) := hs 19 (by kernel_rfl) _ rfl 90 rfl
          refine ⟨_, rfl, fun KR hKR => ?_⟩
          rw [if_pos (wanted_of (j := 19) (d := 90) rfl rfl e90)]
          clear e90
          refine wp_load_row 24 (.tmp 7) rfl _ (by simp [Act.eval, e7]) 24 _ (0, 0) _ ((hB.block _ (heap_lt hX)).trans hX) Try.underlying24 rfl (info24 _) ?_
          exact hKR _ _ rfl (Below.refl _ _) (fun h => by cases h)
        · intro a W hs ho hB
          have e8 : a.tmps[8]? = some (.pointer (some ⟨w.heap.size + 1 + 1 + 1 + 1, 0, none⟩)) := (ho 8 (by kernel_rfl)).trans rfl
          have e90 : a.tmps[90]? = some (.bool true) := hs 19 (by kernel_rfl) _ rfl 90 rfl
          refine ⟨_, rfl, fun KR hKR => ?_⟩
          rw [if_pos (wanted_of (j := 19) (d := 90) rfl rfl e90)]
          clear e90
          refine wp_load_row 24 (.tmp 8) rfl _ (by simp [Act.eval, e8]) 24 _ (0, 0) _ ((hB.block _ (heap_lt hY)).trans hY) Try.underlying24 rfl (info24 _) ?_
          exact hKR _ _ rfl (Below.refl _ _) (fun h => by cases h)
        · intro a W hs ho hB
          have e91 : a.tmps[91]? = some (.agg (CS x)) := hs 20 (by kernel_rfl) _ rfl 91 rfl
          have e92 : a.tmps[92]? = some (.agg (CS y)) := hs 21 (by kernel_rfl) _ rfl 92 rfl
          have e90 : a.tmps[90]? = some (.bool true) := hs 19 (by kernel_rfl) _ rfl 90 rfl
          refine ⟨_, rfl, fun KR hKR => ?_⟩
          rw [if_pos (wanted_of (j := 19) (d := 90) rfl rfl e90)]
          clear e90
          clear hs ho
          go_simp
          (go_at_call 10; refine (cmpV_is _ _ _ KC.out _).mono ?_; rintro e w1 ⟨rfl, hb⟩)
          exact hKR _ _ rfl hb (fun h => by cases h)
        · intro a W hs ho hB
          have e93 : a.tmps[93]? = some (.int .i64 n) := hs 22 (by kernel_rfl) _ rfl 93 rfl
          have e90 : a.tmps[90]? = some (.bool true) := hs 19 (by kernel_rfl) _ rfl 90 rfl
          refine ⟨_, rfl, fun KR hKR => ?_⟩
          rw [if_pos (wanted_of (j := 19) (d := 90) rfl rfl e90)]
          clear e90
          have E := KN.out
          clear hs ho
          go_simp
          exact hKR _ _ rfl (Below.refl _ _) (fun h => by cases h)
        · intro a W hs ho hB
          have e7 : a.tmps[7]? = some (.pointer (some ⟨w.heap.size + 1 + 1 + 1, 0, none⟩)) := (ho 7 (by kernel_rfl)).trans rfl
          have e90 : a.tmps[90]? = some (.bool true) := hs 19 (by kernel_rfl) _ rfl 90 rfl
          refine ⟨_, rfl, fun KR hKR => ?_⟩
          rw [if_pos (wanted_of (j := 19) (d := 90) rfl rfl e90)]
          clear e90
          refine wp_load_row 24 (.tmp 7) rfl _ (by simp [Act.eval, e7]) 24 _ (0, 0) _ ((hB.block _ (heap_lt hX)).trans hX) Try.underlying24 rfl (info24 _) ?_
          exact hKR _ _ rfl (Below.refl _ _) (fun h => by cases h)
        · intro a W hs ho hB
          have e8 : a.tmps[8]? = some (.pointer (some ⟨w.heap.size + 1 + 1 + 1 + 1, 0, none⟩)) := (ho 8 (by kernel_rfl)).trans rfl
          have e90 : a.tmps[90]? = some (.bool true) := hs 19 (by kernel_rfl) _ rfl 90 rfl
          refine ⟨_, rfl, fun KR hKR => ?_⟩
          rw [if_pos (wanted_of (j := 19) (d := 90) rfl rfl e90)]
          clear e90
          refine wp_load_row 24 (.tmp 8) rfl _ (by simp [Act.eval, e8]) 24 _ (0, 0) _ ((hB.block _ (heap_lt hY)).trans hY) Try.underlying24 rfl (info24 _) ?_
          exact hKR _ _ rfl (Below.refl _ _) (fun h => by cases h)
        · intro a W hs ho hB
          have e95 : a.tmps[95]? = some (.agg (CS x)) := hs 24 (by kernel_rfl) _ rfl 95 rfl
          have e96 : a.tmps[96]? = some (.agg (CS y)) := hs 25 (by kernel_rfl) _ rfl 96 rfl
          have e90 : a.tmps[90]? = some (.bool true) := hs 19 (by kernel_rfl) _ rfl 90 rfl
          refine ⟨_, rfl, fun KR hKR => ?_⟩
          rw [if_pos (wanted_of (j := 19) (d := 90) rfl rfl e90)]
          clear e90
          clear hs ho
          (go_simp; (go_at_call 9; refine (coversV_is _ _ _ K1.out _).mono ?_; rintro e w1 ⟨rfl, hb⟩); exact hKR _ _ rfl hb (fun h => by cases h))
        · intro a W hs ho hB
          have e97 : a.tmps[97]? = some (.bool false) := hs 26 (by kernel_rfl) _ rfl 97 rfl
          have e90 : a.tmps[90]? = some (.bool true) := hs 19 (by kernel_rfl) _ rfl 90 rfl
          refine ⟨_, rfl, fun KR hKR => ?_⟩
          rw [if_pos (wanted_of (j := 19) (d := 90) rfl rfl e90)]
          clear e90
          clear hs ho
          go_simp
          exact hKR _ _ rfl (Below.refl _ _) (fun h => by cases h)
        · intro a W hs ho hB
          have e98 : a.tmps[98]? = some (.bool true) := hs 27 (by kernel_rfl) _ rfl 98 rfl
          have e90 : a.tmps[90]? = some (.bool true) := hs 19 (by kernel_rfl) _ rfl 90 rfl
          refine ⟨_, rfl, fun KR hKR => ?_⟩
          rw [if_pos (wanted_of (j := 19) (d := 90) rfl rfl e90)]
          clear e90
          clear hs ho
          go_simp
          exact hKR _ _ rfl (Below.refl _ _) (fun h => by cases h)
        · intro a W hs ho hB
          have e8 : a.tmps[8]? = some (.pointer (some ⟨w.heap.size + 1 + 1 + 1 + 1, 0, none⟩)) := (ho 8 (by kernel_rfl)).trans rfl
          have e99 : a.tmps[99]? = some (.bool true) := hs 28 (by kernel_rfl) _ rfl 99 rfl
          refine ⟨_, rfl, fun KR hKR => ?_⟩
          rw [if_pos (wanted_of (j := 28) (d := 99) rfl rfl e99)]
          clear e99
          refine wp_load_row 24 (.tmp 8) rfl _ (by simp [Act.eval, e8]) 24 _ (0, 0) _ ((hB.block _ (heap_lt hY)).trans hY) Try.underlying24 rfl (info24 _) ?_
          exact hKR _ _ rfl (Below.refl _ _) (fun h => by cases h)
        · intro a W hs ho hB
          have e7 : a.tmps[7]? = some (.pointer (some ⟨w.heap.size + 1 + 1 + 1, 0, none⟩)) := (ho 7 (by kernel_rfl)).trans rfl
          have e99 : a.tmps[99]? = some (.bool true) := hs 28 (by kernel_rfl) _ rfl 99 rfl
          refine ⟨_, rfl, fun KR hKR => ?_⟩
          rw [if_pos (wanted_of (j := 28) (d := 99) rfl rfl e99)]
          clear e99
          refine wp_load_row 24 (.tmp 7) rfl _ (by simp [Act.eval, e7]) 24 _ (0, 0) _ ((hB.block _ (heap_lt hX)).trans hX) Try.underlying24 rfl (info24 _) ?_
          exact hKR _ _ rfl (Below.refl _ _) (fun h => by cases h)
        · intro a W hs ho hB
          have e100 : a.tmps[100]? = some (.agg (CS y)) := hs 29 (by kernel_rfl) _ rfl 100 rfl
          have e101 : a.tmps[101]? = some (.agg (CS x)) := hs 30 (by kernel_rfl) _ rfl 101 rfl
          have e99 : a.tmps[99]? = some (.bool true) := hs 28 (by kernel_rfl) _ rfl 99 rfl
          refine ⟨_, rfl, fun KR hKR => ?_⟩
          rw [if_pos (wanted_of (j := 28) (d := 99) rfl rfl e99)]
          clear e99
          clear hs ho
          (go_simp; (go_at_call 9; refine (coversV_is _ _ _ K2.out _).mono ?_; rintro e w1 ⟨rfl, hb⟩); exact hKR _ _ rfl hb (fun h => by cases h))
        · intro a W hs ho hB
          have e102 : a.tmps[102]? = some (.bool true) := hs 31 (by kernel_rfl) _ rfl 102 rfl
          have e99 : a.tmps[99]? = some (.bool true) := hs 28 (by kernel_rfl) _ rfl 99 rfl
          refine ⟨_, rfl, fun KR hKR => ?_⟩
          rw [if_pos (wanted_of (j := 28) (d := 99) rfl rfl e99)]
          clear e99
          clear hs ho
          go_simp
          exact hKR _ _ rfl (Below.refl _ _) (fun h => by cases h)
        · intro a W hs ho hB
          have e99 : a.tmps[99]? = some (.bool true) := hs 28 (by kernel_rfl) _ rfl 99 rfl
          have e103 : a.tmps[103]? = some (.bool false) := hs 32 (by kernel_rfl) _ rfl 103 rfl
          have e90 : a.tmps[90]? = some (.bool true) := hs 19 (by kernel_rfl) _ rfl 90 rfl
          refine ⟨_, rfl, fun KR hKR => ?_⟩
          rw [if_pos (wanted_of (j := 19) (d := 90) rfl rfl e90)]
          clear e90
          clear hs ho
          go_simp
          exact hKR _ _ rfl (Below.refl _ _) (fun h => by cases h)
        · intro a W hs ho hB
          have e94 : a.tmps[94]? = some (.bool false) := hs 23 (by kernel_rfl) _ rfl 94 rfl
          have e104 : a.tmps[104]? = some (.bool false) := hs 33 (by kernel_rfl) _ rfl 104 rfl
          have e90 : a.tmps[90]? = some (.bool true) := hs 19 (by kernel_rfl) _ rfl 90 rfl
          refine ⟨_, rfl, fun KR hKR => ?_⟩
          rw [if_pos (wanted_of (j := 19) (d := 90) rfl rfl e90)]
          clear e90
          clear hs ho
          go_simp
          exact hKR _ _ rfl (Below.refl _ _) (fun h => by cases h)
        · intro a W hs ho hB
          have e90 : a.tmps[90]? = some (.bool true) := hs 19 (by kernel_rfl) _ rfl 90 rfl
          have e105 : a.tmps[105]? = some (.bool true) := hs 34 (by kernel_rfl) _ rfl 105 rfl
          refine ⟨_, rfl, fun KR hKR => ?_⟩
          rw [if_pos (show Region.wanted _ _ = true from rfl)]
          clear hs ho
          go_simp
          exact hKR _ _ rfl (Below.refl _ _) (fun h => by cases h)
        · intro a W hs ho hB
          have e106 : a.tmps[106]? = some (.bool true) := hs 35 (by kernel_rfl) _ rfl 106 rfl
          refine ⟨_, rfl, fun KR hKR => ?_⟩
          rw [if_pos (show Region.wanted _ _ = true from rfl)]
          clear hs ho
          go_simp
          exact hKR _ _ rfl (Below.refl _ _) (fun h => by cases h)
        · intro a W hs ho hB
          have e107 : a.tmps[107]? = some (.bool true) := hs 36 (by kernel_rfl) _ rfl 107 rfl
          refine ⟨_, rfl, fun KR hKR => ?_⟩
          rw [if_pos (wanted_of (j := 36) (d := 107) rfl rfl e107)]
          clear e107
          clear hs ho
          go_simp
          (go_at_call 11; refine (knows_any _).mono ?_; rintro e w1 ⟨rfl, hb⟩)
          exact hKR _ _ rfl hb (fun h => by cases h)
        · intro a W hs ho hB
          have e107 : a.tmps[107]? = some (.bool true) := hs 36 (by kernel_rfl) _ rfl 107 rfl
          have e108 : a.tmps[108]? = some (.bool true) := hs 37 (by kernel_rfl) _ rfl 108 rfl
          refine ⟨_, rfl, fun KR hKR => ?_⟩
          rw [if_pos (show Region.wanted _ _ = true from rfl)]
          clear hs ho
          go_simp
          exact hKR _ _ rfl (Below.refl _ _) (fun h => by cases h)
        · intro a W hs ho hB
          have e109 : a.tmps[109]? = some (.bool true) := hs 38 (by kernel_rfl) _ rfl 109 rfl
          refine ⟨_, rfl, fun KR hKR => ?_⟩
          rw [if_pos (show Region.wanted _ _ = true from rfl)]
          clear hs ho
          go_simp
          exact hKR _ _ rfl (Below.refl _ _) (fun h => by cases h)
      · intro vals W hv hne hB
        have v0 : vals 0 = .agg (CS x) := hv 0 (Nat.le_of_ble_eq_true rfl)
        have v1 : vals 1 = .agg (CS y) := hv 1 (Nat.le_of_ble_eq_true rfl)
        have v2 : vals 2 = .bool false := hv 2 (Nat.le_of_ble_eq_true rfl)
        have v3 : vals 3 = .agg (CS x) := hv 3 (Nat.le_of_ble_eq_true rfl)
        have v4 : vals 4 = .agg (CS y) := hv 4 (Nat.le_of_ble_eq_true rfl)
        have v5 : vals 5 = .agg (CS (mxF x y)) := hv 5 (Nat.le_of_ble_eq_true rfl)
        have v6 : vals 6 = .agg (CS x) := hv 6 (Nat.le_of_ble_eq_true rfl)
        have v7 : vals 7 = .bool false := hv 7 (Nat.le_of_ble_eq_true rfl)
        have v8 : vals 8 = .bool true := hv 8 (Nat.le_of_ble_eq_true rfl)
        have v9 : vals 9 = .bool true := hv 9 (Nat.le_of_ble_eq_true rfl)
        have v10 : vals 10 = .agg (CS x) := hv 10 (Nat.le_of_ble_eq_true rfl)
        have v11 : vals 11 = .agg (CS y) := hv 11 (Nat.le_of_ble_eq_true rfl)
        have v12 : vals 12 = .int .i64 n := hv 12 (Nat.le_of_ble_eq_true rfl)
        have v13 : vals 13 = .bool (n == 0) := hv 13 (Nat.le_of_ble_eq_true rfl)
        have v14 : vals 14 = .agg (CS x) := hv 14 (Nat.le_of_ble_eq_true rfl)
        have v15 : vals 15 = .agg (CS y) := hv 15 (Nat.le_of_ble_eq_true rfl)
        have v16 : vals 16 = .bool (n == 0) := hv 16 (Nat.le_of_ble_eq_true rfl)
        have v17 : vals 17 = .bool true := hv 17 (Nat.le_of_ble_eq_true rfl)
        have v18 : vals 18 = .bool true := hv 18 (Nat.le_of_ble_eq_true rfl)
        have v19 : vals 19 = .bool true := hv 19 (Nat.le_of_ble_eq_true rfl)
        have v20 : vals 20 = .agg (CS x) := hv 20 (Nat.le_of_ble_eq_true rfl)
        have v21 : vals 21 = .agg (CS y) := hv 21 (Nat.le_of_ble_eq_true rfl)
        have v22 : vals 22 = .int .i64 n := hv 22 (Nat.le_of_ble_eq_true rfl)
        have v23 : vals 23 = .bool false := hv 23 (Nat.le_of_ble_eq_true rfl)
        have v24 : vals 24 = .agg (CS x) := hv 24 (Nat.le_of_ble_eq_true rfl)
        have v25 : vals 25 = .agg (CS y) := hv 25 (Nat.le_of_ble_eq_true rfl)
        have v26 : vals 26 = .bool false := hv 26 (Nat.le_of_ble_eq_true rfl)
        have v27 : vals 27 = .bool true := hv 27 (Nat.le_of_ble_eq_true rfl)
        have v28 : vals 28 = .bool true := hv 28 (Nat.le_of_ble_eq_true rfl)
        have v29 : vals 29 = .agg (CS y) := hv 29 (Nat.le_of_ble_eq_true rfl)
        have v30 : vals 30 = .agg (CS x) := hv 30 (Nat.le_of_ble_eq_true rfl)
        have v31 : vals 31 = .bool true := hv 31 (Nat.le_of_ble_eq_true rfl)
        have v32 : vals 32 = .bool false := hv 32 (Nat.le_of_ble_eq_true rfl)
        have v33 : vals 33 = .bool false := hv 33 (Nat.le_of_ble_eq_true rfl)
        have v34 : vals 34 = .bool true := hv 34 (Nat.le_of_ble_eq_true rfl)
        have v35 : vals 35 = .bool true := hv 35 (Nat.le_of_ble_eq_true rfl)
        have v36 : vals 36 = .bool true := hv 36 (Nat.le_of_ble_eq_true rfl)
        have v37 : vals 37 = .bool true := hv 37 (Nat.le_of_ble_eq_true rfl)
        have v38 : vals 38 = .bool true := hv 38 (Nat.le_of_ble_eq_true rfl)
        have v39 : vals 39 = .bool true := hv 39 (Nat.le_of_ble_eq_true rfl)
        simp only [List.length_cons, List.length_nil, Nat.zero_add, Nat.reduceAdd, slots, if_true, dstOf, List.getElem?_toArray, List.getElem?_cons_zero, List.getElem?_cons_succ, Option.bind_some, Act.put, List.setIfInBounds_toArray, List.set_cons_zero, List.set_cons_succ, v0, v1, v2, v3, v4, v5, v6, v7, v8, v9, v10, v11, v12, v13, v14, v15, v16, v17, v18, v19, v20, v21, v22, v23, v24, v25, v26, v27, v28, v29, v30, v31, v32, v33, v34, v35, v36, v37, v38, v39]
        clear hv hne v0 v1 v2 v3 v4 v5 v6 v7 v8 v9 v10 v11 v12 v13 v14 v15 v16 v17 v18 v19 v20 v21 v22 v23 v24 v25 v26 v27 v28 v29 v30 v31 v32 v33 v34 v35 v36 v37 v38 v39
        change wpAny _ _ _ _ 0 _ _ _
        refine wpAny_done (by kernel_rfl) ?_ _
        replace hBW := bel hBW hB
        go_wp2
        go_ret
        exact ⟨rfl, by assumption⟩
end Go.Proofs.Ytidfmpiliinmeaa
