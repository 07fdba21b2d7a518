/- The law RectPlays at every input. -/
import Derived.Test.YtjekoaodgdodjaaRL
set_option linter.unusedVariables false
set_option linter.unusedSimpArgs false
namespace Go.Proofs.Ytjekoaodgdodjaa
open Go.RowKit
open Go.Proofs.YtjekoaodgdodjaaW.PrintWords (own_slice pw_own_below)
attribute [local go_sem high] eqR_is
theorem joinR_is (p q j : R4) (je : Int) (h : joinF p q = (j, je)) (w : World) : Calls Try.prog 13 #[.agg (RS p), .agg (RS q)] w fun e w' => e = .returned (.tuple #[.agg (RS j), .int .i64 je]) ∧ Below w.heap.size w w' := by
  have := joinR p q w
  rw [h] at this
  exact this
theorem joinD_is (p q j : R4) (je : Int) (h : joinF p q = (j, je)) (w : World) : Calls Try.prog 21 #[.agg (RS p), .agg (RS q)] w fun e w' => e = .returned (.tuple #[.agg (RS j), .int .i64 je]) ∧ Below w.heap.size w w' := by
  have := joinD p q w
  rw [h] at this
  exact this
theorem insetR_is (p j : R4) (n je : Int) (h : insetF p n = (j, je)) (w : World) : Calls Try.prog 22 #[.agg (RS p), .int .i64 n] w fun e w' => e = .returned (.tuple #[.agg (RS j), .int .i64 je]) ∧ Below w.heap.size w w' := by
  have := insetR p n w
  rw [h] at this
  exact this
theorem insetD_is (p j : R4) (n je : Int) (h : insetF p n = (j, je)) (w : World) : Calls Try.prog 23 #[.agg (RS p), .int .i64 n] w fun e w' => e = .returned (.tuple #[.agg (RS j), .int .i64 je]) ∧ Below w.heap.size w w' := by
  have := insetD p n w
  rw [h] at this
  exact this
theorem lessR_is (p q : R4) (l : List R4) (h : lessF p q = l) (w : World) : Calls Try.prog 25 #[.agg (RS p), .agg (RS q)] w (LessPost w l) := by
  subst h
  exact less_any p q w
theorem lessD_is (p q : R4) (l : List R4) (h : lessF p q = l) (w : World) : Calls Try.prog 26 #[.agg (RS p), .agg (RS q)] w (LessPostD w l) := by
  subst h
  exact lessD p q w
theorem less_len (p q : R4) : (lessF p q).length ≤ 4 := by
  unfold lessF
  split
  · simp
  · split
    · simp
    · exact Nat.le_trans (List.length_filter_le _ _) (by simp [pieces])
set_option maxRecDepth 100000 in
set_option maxHeartbeats 16000000 in
theorem plays_walk (a b j s : R4) (l : List R4) (x y n je se : Int) (w : World) (hj : joinF a b = (j, je)) (hs : insetF a n = (s, se)) (hl : lessF a b = l) (hlen : l.length ≤ 4) :
    Calls Try.prog 5 #[.agg (RS a), .agg (RS b), .int .i64 x, .int .i64 y, .int .i64 n] w fun e w' => e = .returned (.bool true) ∧ Below w.heap.size w w' := by
  have HJ := Lib.hid hj
  have HS := Lib.hid hs
  have HL := Lib.hid hl
  clear hj hs hl
  have hF : Hid (All ((w.alloc (.cells (RS a) 23)).alloc (.cells (RS b) 23)) [(w.heap.size + 1, 23, b), (w.heap.size, 23, a)]) := Lib.hid fun x hx => by
    simp only [List.mem_cons, List.not_mem_nil, or_false] at hx
    rcases hx with rfl | rfl
    · exact heap_new_at (by simp)
    · exact (heap_alloc_old _ _ (by simp)).trans (heap_alloc_new w _)
  have hBW : Hid (Below w.heap.size w ((w.alloc (.cells (RS a) 23)).alloc (.cells (RS b) 23))) := Lib.hid (below_alloc (below_alloc (Below.refl _ _) _) _)
  go_enter Try.func5, Try.ntmps5
  go_wp2_with (first
    | (refine wpList_load_on (by rfl) 23 (.tmp 5) rfl _ rfl 23 (RS a) (0, 0) _ (hF.out (w.heap.size, 23, a) (by simp)) Try.underlying23 rfl (info23 _) ?_)
    | (refine wpList_load_on (by rfl) 23 (.tmp 6) rfl _ rfl 23 (RS b) (0, 0) _ (hF.out (w.heap.size + 1, 23, b) (by simp)) Try.underlying23 rfl (info23 _) ?_)
    | (refine wpList_load_on (by rfl) 24 (.tmp 11) rfl _ rfl 24 (RS a) (0, 0) _ (hF.out (w1.heap.size, 24, a) (by simp)) Try.underlying24 rfl (info24 _) ?_)
    | (refine wpList_load_on (by rfl) 24 (.tmp 12) rfl _ rfl 24 (RS b) (0, 0) _ (hF.out (w3.heap.size, 24, b) (by simp)) Try.underlying24 rfl (info24 _) ?_)
    | (go_at_call_of 7 (Value.agg (RS a)); refine (ownR _ _).mono ?_; rintro e w1 ⟨rfl, hb⟩; have hF := Lib.hid (All.below hF.out hb); have hBW := Lib.hid (bel hBW.out hb); clear hb)
    | (refine wpList_store_whole rfl 24 (.tmp 11) (.tmp 25) rfl ?g_p1 (RS a) ?c_p1 24 ?ha_p1 ?hb_p1 ?hc_p1 ?hd_p1 ?he_p1 ?hf_p1 ?_; (case ha_p1 => rfl); (case hb_p1 => rfl); (case hc_p1 => exact heap_alloc_new _ _); (case hd_p1 => rfl); (case he_p1 => exact info24 _); (case hf_p1 => kernel_rfl); intro w2 hnew hsz hfar hbel; have hF := Lib.hid (All.store hF.out hnew hfar); have hBW := Lib.hid (hbel _ _ hBW.out.size (below_alloc hBW.out _)); clear hnew hsz hfar hbel)
    | (go_at_call_of 7 (Value.agg (RS b)); refine (ownR _ _).mono ?_; rintro e w3 ⟨rfl, hb⟩; have hF := Lib.hid (All.below hF.out hb); have hBW := Lib.hid (bel hBW.out hb); clear hb)
    | (refine wpList_store_whole rfl 24 (.tmp 12) (.tmp 27) rfl ?g_p2 (RS b) ?c_p2 24 ?ha_p2 ?hb_p2 ?hc_p2 ?hd_p2 ?he_p2 ?hf_p2 ?_; (case ha_p2 => rfl); (case hb_p2 => rfl); (case hc_p2 => exact heap_alloc_new _ _); (case hd_p2 => rfl); (case he_p2 => exact info24 _); (case hf_p2 => kernel_rfl); intro w4 hnew hsz hfar hbel; have hF := Lib.hid (All.store hF.out hnew hfar); have hBW := Lib.hid (hbel _ _ hBW.out.size (below_alloc hBW.out _)); clear hnew hsz hfar hbel)
    | (go_at_call 13; refine (joinR_is _ _ _ _ HJ.out _).mono ?_; rintro e w5 ⟨rfl, hb⟩; have hF := Lib.hid (All.below hF.out hb); have hBW := Lib.hid (bel hBW.out hb); clear hb)
    | (refine wpList_store_whole rfl 24 (.tmp 13) (.tmp 32) rfl ?g_p3 (RS j) ?c_p3 24 ?ha_p3 ?hb_p3 ?hc_p3 ?hd_p3 ?he_p3 ?hf_p3 ?_; (case ha_p3 => rfl); (case hb_p3 => rfl); (case hc_p3 => exact heap_alloc_new _ _); (case hd_p3 => rfl); (case he_p3 => exact info24 _); (case hf_p3 => kernel_rfl); intro w6 hnew hsz hfar hbel; have hF := Lib.hid (All.store hF.out hnew hfar); have hBW := Lib.hid (hbel _ _ hBW.out.size (below_alloc hBW.out _)); clear hnew hsz hfar hbel)
    | (go_at_call 21; refine (joinD_is _ _ _ _ HJ.out _).mono ?_; rintro e w7 ⟨rfl, hb⟩; have hF := Lib.hid (All.below hF.out hb); have hBW := Lib.hid (bel hBW.out hb); clear hb)
    | (refine wpList_store_whole rfl 23 (.tmp 15) (.tmp 38) rfl ?g_p4 (RS j) ?c_p4 23 ?ha_p4 ?hb_p4 ?hc_p4 ?hd_p4 ?he_p4 ?hf_p4 ?_; (case ha_p4 => rfl); (case hb_p4 => rfl); (case hc_p4 => exact heap_alloc_new _ _); (case hd_p4 => rfl); (case he_p4 => exact info23 _); (case hf_p4 => kernel_rfl); intro w8 hnew hsz hfar hbel; have hF := Lib.hid (All.store hF.out hnew hfar); have hBW := Lib.hid (hbel _ _ hBW.out.size (below_alloc hBW.out _)); clear hnew hsz hfar hbel)
    | (go_at_call 22; refine (insetR_is _ _ _ _ HS.out _).mono ?_; rintro e w9 ⟨rfl, hb⟩; have hF := Lib.hid (All.below hF.out hb); have hBW := Lib.hid (bel hBW.out hb); clear hb)
    | (refine wpList_store_whole rfl 24 (.tmp 17) (.tmp 44) rfl ?g_p5 (RS s) ?c_p5 24 ?ha_p5 ?hb_p5 ?hc_p5 ?hd_p5 ?he_p5 ?hf_p5 ?_; (case ha_p5 => rfl); (case hb_p5 => rfl); (case hc_p5 => exact heap_alloc_new _ _); (case hd_p5 => rfl); (case he_p5 => exact info24 _); (case hf_p5 => kernel_rfl); intro w10 hnew hsz hfar hbel; have hF := Lib.hid (All.store hF.out hnew hfar); have hBW := Lib.hid (hbel _ _ hBW.out.size (below_alloc hBW.out _)); clear hnew hsz hfar hbel)
    | (go_at_call 23; refine (insetD_is _ _ _ _ HS.out _).mono ?_; rintro e w11 ⟨rfl, hb⟩; have hF := Lib.hid (All.below hF.out hb); have hBW := Lib.hid (bel hBW.out hb); clear hb)
    | (refine wpList_store_whole rfl 23 (.tmp 19) (.tmp 50) rfl ?g_p6 (RS s) ?c_p6 23 ?ha_p6 ?hb_p6 ?hc_p6 ?hd_p6 ?he_p6 ?hf_p6 ?_; (case ha_p6 => rfl); (case hb_p6 => rfl); (case hc_p6 => exact heap_alloc_new _ _); (case hd_p6 => rfl); (case he_p6 => exact info23 _); (case hf_p6 => kernel_rfl); intro w12 hnew hsz hfar hbel; have hF := Lib.hid (All.store hF.out hnew hfar); have hBW := Lib.hid (hbel _ _ hBW.out.size (below_alloc hBW.out _)); clear hnew hsz hfar hbel))
  have hF := hF.out
  have hBW := hBW.out
  refine drawn_st (w := w12) ([Lf.v (.agg (RS j)), Lf.v (.agg (RS j)), Lf.v (.agg (RS j)), Lf.v (.bool false), Lf.v (.bool false), Lf.v (.int .i64 je), Lf.v (.int .i64 je), Lf.v (.int .i64 je), Lf.v (.bool false), Lf.v (.bool false), Lf.v (.bool false), Lf.v (.agg (RS s)), Lf.v (.agg (RS s)), Lf.v (.agg (RS s)), Lf.v (.bool false), Lf.v (.bool false), Lf.v (.bool false), Lf.v (.int .i64 se), Lf.v (.int .i64 se), Lf.v (.int .i64 se), Lf.v (.bool false), Lf.v (.bool false)] : List Lf) (by kernel_rfl) (by kernel_rfl) (by kernel_rfl) (by kernel_rfl) ?_ ?_ ?_ ?_
  · intro i_ v_ hi a_ W hs ho hB
    have hl := (List.getElem?_eq_some_iff.1 hi).1
    rcases (show i_ = 0 ∨ i_ = 1 ∨ i_ = 2 ∨ i_ = 3 ∨ i_ = 4 ∨ i_ = 5 ∨ i_ = 6 ∨ i_ = 7 ∨ i_ = 8 ∨ i_ = 9 ∨ i_ = 10 ∨ i_ = 11 ∨ i_ = 12 ∨ i_ = 13 ∨ i_ = 14 ∨ i_ = 15 ∨ i_ = 16 ∨ i_ = 17 ∨ i_ = 18 ∨ i_ = 19 ∨ i_ = 20 ∨ i_ = 21 by simp at hl; omega) with rfl | rfl | rfl | rfl | rfl | rfl | rfl | rfl | rfl | rfl | rfl | rfl | rfl | rfl | rfl | rfl | rfl | rfl | rfl | rfl | rfl | rfl
    · obtain rfl : (.agg (RS j)) = v_ := Lf.v.inj (Option.some.inj (show some (Lf.v (.agg (RS j))) = some (Lf.v v_) from hi))
      clear hi hl
      have e13 : a_.tmps[13]? = some (.pointer (some ⟨w5.heap.size, 0, none⟩)) := (ho 13 (by kernel_rfl)).trans rfl
      refine ⟨_, rfl, fun KR hKR => ?_⟩
      rw [if_pos (show Region.wanted _ _ = true from rfl)]
      refine wp_load_row 24 (.tmp 13) rfl _ (by simp [Act.eval, e13]) 24 _ (0, 0) _ ((hB.block _ (heap_lt (hF (w5.heap.size, 24, j) (by simp)))).trans (hF (w5.heap.size, 24, j) (by simp))) Try.underlying24 rfl (info24 _) ?_
      exact hKR _ (Below.refl _ _)
    · obtain rfl : (.agg (RS j)) = v_ := Lf.v.inj (Option.some.inj (show some (Lf.v (.agg (RS j))) = some (Lf.v v_) from hi))
      clear hi hl
      have e52 : a_.tmps[52]? = some (.agg (RS j)) := hs 0 (by kernel_rfl) _ rfl 52 rfl
      refine ⟨_, rfl, fun KR hKR => ?_⟩
      rw [if_pos (show Region.wanted _ _ = true from rfl)]
      clear hs ho
      go_simp
      (go_at_call 24; refine (refR _ _).mono ?_; rintro e w1 ⟨rfl, hb⟩)
      exact hKR _ hb
    · obtain rfl : (.agg (RS j)) = v_ := Lf.v.inj (Option.some.inj (show some (Lf.v (.agg (RS j))) = some (Lf.v v_) from hi))
      clear hi hl
      have e15 : a_.tmps[15]? = some (.pointer (some ⟨w7.heap.size, 0, none⟩)) := (ho 15 (by kernel_rfl)).trans rfl
      refine ⟨_, rfl, fun KR hKR => ?_⟩
      rw [if_pos (show Region.wanted _ _ = true from rfl)]
      refine wp_load_row 23 (.tmp 15) rfl _ (by simp [Act.eval, e15]) 23 _ (0, 0) _ ((hB.block _ (heap_lt (hF (w7.heap.size, 23, j) (by simp)))).trans (hF (w7.heap.size, 23, j) (by simp))) Try.underlying23 rfl (info23 _) ?_
      exact hKR _ (Below.refl _ _)
    · obtain rfl : (.bool false) = v_ := Lf.v.inj (Option.some.inj (show some (Lf.v (.bool false)) = some (Lf.v v_) from hi))
      clear hi hl
      have e53 : a_.tmps[53]? = some (.agg (RS j)) := hs 1 (by kernel_rfl) _ rfl 53 rfl
      have e54 : a_.tmps[54]? = some (.agg (RS j)) := hs 2 (by kernel_rfl) _ rfl 54 rfl
      refine ⟨_, rfl, fun KR hKR => ?_⟩
      rw [if_pos (show Region.wanted _ _ = true from rfl)]
      clear hs ho
      go_simp
      exact hKR _ (Below.refl _ _)
    · obtain rfl : (.bool false) = v_ := Lf.v.inj (Option.some.inj (show some (Lf.v (.bool false)) = some (Lf.v v_) from hi))
      clear hi hl
      have e55 : a_.tmps[55]? = some (.bool false) := hs 3 (by kernel_rfl) _ rfl 55 rfl
      refine ⟨_, rfl, fun KR hKR => ?_⟩
      rw [if_pos (show Region.wanted _ _ = true from rfl)]
      clear hs ho
      go_simp
      exact hKR _ (Below.refl _ _)
    · obtain rfl : (.int .i64 je) = v_ := Lf.v.inj (Option.some.inj (show some (Lf.v (.int .i64 je)) = some (Lf.v v_) from hi))
      clear hi hl
      have e14 : a_.tmps[14]? = some (.int .i64 je) := (ho 14 (by kernel_rfl)).trans rfl
      have e56 : a_.tmps[56]? = some (.bool false) := hs 4 (by kernel_rfl) _ rfl 56 rfl
      refine ⟨_, rfl, fun KR hKR => ?_⟩
      rw [if_pos (wanted_of (j := 4) (d := 56) rfl rfl e56)]
      clear e56
      clear hs ho
      go_simp
      exact hKR _ (Below.refl _ _)
    · obtain rfl : (.int .i64 je) = v_ := Lf.v.inj (Option.some.inj (show some (Lf.v (.int .i64 je)) = some (Lf.v v_) from hi))
      clear hi hl
      have e57 : a_.tmps[57]? = some (.int .i64 je) := hs 5 (by kernel_rfl) _ rfl 57 rfl
      have e56 : a_.tmps[56]? = some (.bool false) := hs 4 (by kernel_rfl) _ rfl 56 rfl
      refine ⟨_, rfl, fun KR hKR => ?_⟩
      rw [if_pos (wanted_of (j := 4) (d := 56) rfl rfl e56)]
      clear e56
      clear hs ho
      (go_simp; (go_at_call 14; refine (num_any _ _).mono ?_; rintro e w1 ⟨rfl, rfl⟩); exact hKR _ (Below.refl _ _))
    · obtain rfl : (.int .i64 je) = v_ := Lf.v.inj (Option.some.inj (show some (Lf.v (.int .i64 je)) = some (Lf.v v_) from hi))
      clear hi hl
      have e16 : a_.tmps[16]? = some (.int .i64 je) := (ho 16 (by kernel_rfl)).trans rfl
      have e56 : a_.tmps[56]? = some (.bool false) := hs 4 (by kernel_rfl) _ rfl 56 rfl
      refine ⟨_, rfl, fun KR hKR => ?_⟩
      rw [if_pos (wanted_of (j := 4) (d := 56) rfl rfl e56)]
      clear e56
      clear hs ho
      go_simp
      exact hKR _ (Below.refl _ _)
    · obtain rfl : (.bool false) = v_ := Lf.v.inj (Option.some.inj (show some (Lf.v (.bool false)) = some (Lf.v v_) from hi))
      clear hi hl
      have e58 : a_.tmps[58]? = some (.int .i64 je) := hs 6 (by kernel_rfl) _ rfl 58 rfl
      have e59 : a_.tmps[59]? = some (.int .i64 je) := hs 7 (by kernel_rfl) _ rfl 59 rfl
      have e56 : a_.tmps[56]? = some (.bool false) := hs 4 (by kernel_rfl) _ rfl 56 rfl
      refine ⟨_, rfl, fun KR hKR => ?_⟩
      rw [if_pos (wanted_of (j := 4) (d := 56) rfl rfl e56)]
      clear e56
      clear hs ho
      go_simp
      exact hKR _ (Below.refl _ _)
    · obtain rfl : (.bool false) = v_ := Lf.v.inj (Option.some.inj (show some (Lf.v (.bool false)) = some (Lf.v v_) from hi))
      clear hi hl
      have e56 : a_.tmps[56]? = some (.bool false) := hs 4 (by kernel_rfl) _ rfl 56 rfl
      have e60 : a_.tmps[60]? = some (.bool false) := hs 8 (by kernel_rfl) _ rfl 60 rfl
      refine ⟨_, rfl, fun KR hKR => ?_⟩
      rw [if_pos (show Region.wanted _ _ = true from rfl)]
      clear hs ho
      go_simp
      exact hKR _ (Below.refl _ _)
    · obtain rfl : (.bool false) = v_ := Lf.v.inj (Option.some.inj (show some (Lf.v (.bool false)) = some (Lf.v v_) from hi))
      clear hi hl
      have e61 : a_.tmps[61]? = some (.bool false) := hs 9 (by kernel_rfl) _ rfl 61 rfl
      refine ⟨_, rfl, fun KR hKR => ?_⟩
      rw [if_pos (show Region.wanted _ _ = true from rfl)]
      clear hs ho
      go_simp
      exact hKR _ (Below.refl _ _)
    · obtain rfl : (.agg (RS s)) = v_ := Lf.v.inj (Option.some.inj (show some (Lf.v (.agg (RS s))) = some (Lf.v v_) from hi))
      clear hi hl
      have e17 : a_.tmps[17]? = some (.pointer (some ⟨w9.heap.size, 0, none⟩)) := (ho 17 (by kernel_rfl)).trans rfl
      have e62 : a_.tmps[62]? = some (.bool false) := hs 10 (by kernel_rfl) _ rfl 62 rfl
      refine ⟨_, rfl, fun KR hKR => ?_⟩
      rw [if_pos (wanted_of (j := 10) (d := 62) rfl rfl e62)]
      clear e62
      refine wp_load_row 24 (.tmp 17) rfl _ (by simp [Act.eval, e17]) 24 _ (0, 0) _ ((hB.block _ (heap_lt (hF (w9.heap.size, 24, s) (by simp)))).trans (hF (w9.heap.size, 24, s) (by simp))) Try.underlying24 rfl (info24 _) ?_
      exact hKR _ (Below.refl _ _)
    · obtain rfl : (.agg (RS s)) = v_ := Lf.v.inj (Option.some.inj (show some (Lf.v (.agg (RS s))) = some (Lf.v v_) from hi))
      clear hi hl
      have e63 : a_.tmps[63]? = some (.agg (RS s)) := hs 11 (by kernel_rfl) _ rfl 63 rfl
      have e62 : a_.tmps[62]? = some (.bool false) := hs 10 (by kernel_rfl) _ rfl 62 rfl
      refine ⟨_, rfl, fun KR hKR => ?_⟩
      rw [if_pos (wanted_of (j := 10) (d := 62) rfl rfl e62)]
      clear e62
      clear hs ho
      go_simp
      (go_at_call 24; refine (refR _ _).mono ?_; rintro e w1 ⟨rfl, hb⟩)
      exact hKR _ hb
    · obtain rfl : (.agg (RS s)) = v_ := Lf.v.inj (Option.some.inj (show some (Lf.v (.agg (RS s))) = some (Lf.v v_) from hi))
      clear hi hl
      have e19 : a_.tmps[19]? = some (.pointer (some ⟨w11.heap.size, 0, none⟩)) := (ho 19 (by kernel_rfl)).trans rfl
      have e62 : a_.tmps[62]? = some (.bool false) := hs 10 (by kernel_rfl) _ rfl 62 rfl
      refine ⟨_, rfl, fun KR hKR => ?_⟩
      rw [if_pos (wanted_of (j := 10) (d := 62) rfl rfl e62)]
      clear e62
      refine wp_load_row 23 (.tmp 19) rfl _ (by simp [Act.eval, e19]) 23 _ (0, 0) _ ((hB.block _ (heap_lt (hF (w11.heap.size, 23, s) (by simp)))).trans (hF (w11.heap.size, 23, s) (by simp))) Try.underlying23 rfl (info23 _) ?_
      exact hKR _ (Below.refl _ _)
    · obtain rfl : (.bool false) = v_ := Lf.v.inj (Option.some.inj (show some (Lf.v (.bool false)) = some (Lf.v v_) from hi))
      clear hi hl
      have e64 : a_.tmps[64]? = some (.agg (RS s)) := hs 12 (by kernel_rfl) _ rfl 64 rfl
      have e65 : a_.tmps[65]? = some (.agg (RS s)) := hs 13 (by kernel_rfl) _ rfl 65 rfl
      have e62 : a_.tmps[62]? = some (.bool false) := hs 10 (by kernel_rfl) _ rfl 62 rfl
      refine ⟨_, rfl, fun KR hKR => ?_⟩
      rw [if_pos (wanted_of (j := 10) (d := 62) rfl rfl e62)]
      clear e62
      clear hs ho
      go_simp
      exact hKR _ (Below.refl _ _)
    · obtain rfl : (.bool false) = v_ := Lf.v.inj (Option.some.inj (show some (Lf.v (.bool false)) = some (Lf.v v_) from hi))
      clear hi hl
      have e62 : a_.tmps[62]? = some (.bool false) := hs 10 (by kernel_rfl) _ rfl 62 rfl
      have e66 : a_.tmps[66]? = some (.bool false) := hs 14 (by kernel_rfl) _ rfl 66 rfl
      refine ⟨_, rfl, fun KR hKR => ?_⟩
      rw [if_pos (show Region.wanted _ _ = true from rfl)]
      clear hs ho
      go_simp
      exact hKR _ (Below.refl _ _)
    · obtain rfl : (.bool false) = v_ := Lf.v.inj (Option.some.inj (show some (Lf.v (.bool false)) = some (Lf.v v_) from hi))
      clear hi hl
      have e67 : a_.tmps[67]? = some (.bool false) := hs 15 (by kernel_rfl) _ rfl 67 rfl
      refine ⟨_, rfl, fun KR hKR => ?_⟩
      rw [if_pos (show Region.wanted _ _ = true from rfl)]
      clear hs ho
      go_simp
      exact hKR _ (Below.refl _ _)
    · obtain rfl : (.int .i64 se) = v_ := Lf.v.inj (Option.some.inj (show some (Lf.v (.int .i64 se)) = some (Lf.v v_) from hi))
      clear hi hl
      have e18 : a_.tmps[18]? = some (.int .i64 se) := (ho 18 (by kernel_rfl)).trans rfl
      have e68 : a_.tmps[68]? = some (.bool false) := hs 16 (by kernel_rfl) _ rfl 68 rfl
      refine ⟨_, rfl, fun KR hKR => ?_⟩
      rw [if_pos (wanted_of (j := 16) (d := 68) rfl rfl e68)]
      clear e68
      clear hs ho
      go_simp
      exact hKR _ (Below.refl _ _)
    · obtain rfl : (.int .i64 se) = v_ := Lf.v.inj (Option.some.inj (show some (Lf.v (.int .i64 se)) = some (Lf.v v_) from hi))
      clear hi hl
      have e69 : a_.tmps[69]? = some (.int .i64 se) := hs 17 (by kernel_rfl) _ rfl 69 rfl
      have e68 : a_.tmps[68]? = some (.bool false) := hs 16 (by kernel_rfl) _ rfl 68 rfl
      refine ⟨_, rfl, fun KR hKR => ?_⟩
      rw [if_pos (wanted_of (j := 16) (d := 68) rfl rfl e68)]
      clear e68
      clear hs ho
      (go_simp; (go_at_call 14; refine (num_any _ _).mono ?_; rintro e w1 ⟨rfl, rfl⟩); exact hKR _ (Below.refl _ _))
    · obtain rfl : (.int .i64 se) = v_ := Lf.v.inj (Option.some.inj (show some (Lf.v (.int .i64 se)) = some (Lf.v v_) from hi))
      clear hi hl
      have e20 : a_.tmps[20]? = some (.int .i64 se) := (ho 20 (by kernel_rfl)).trans rfl
      have e68 : a_.tmps[68]? = some (.bool false) := hs 16 (by kernel_rfl) _ rfl 68 rfl
      refine ⟨_, rfl, fun KR hKR => ?_⟩
      rw [if_pos (wanted_of (j := 16) (d := 68) rfl rfl e68)]
      clear e68
      clear hs ho
      go_simp
      exact hKR _ (Below.refl _ _)
    · obtain rfl : (.bool false) = v_ := Lf.v.inj (Option.some.inj (show some (Lf.v (.bool false)) = some (Lf.v v_) from hi))
      clear hi hl
      have e70 : a_.tmps[70]? = some (.int .i64 se) := hs 18 (by kernel_rfl) _ rfl 70 rfl
      have e71 : a_.tmps[71]? = some (.int .i64 se) := hs 19 (by kernel_rfl) _ rfl 71 rfl
      have e68 : a_.tmps[68]? = some (.bool false) := hs 16 (by kernel_rfl) _ rfl 68 rfl
      refine ⟨_, rfl, fun KR hKR => ?_⟩
      rw [if_pos (wanted_of (j := 16) (d := 68) rfl rfl e68)]
      clear e68
      clear hs ho
      go_simp
      exact hKR _ (Below.refl _ _)
    · obtain rfl : (.bool false) = v_ := Lf.v.inj (Option.some.inj (show some (Lf.v (.bool false)) = some (Lf.v v_) from hi))
      clear hi hl
      have e68 : a_.tmps[68]? = some (.bool false) := hs 16 (by kernel_rfl) _ rfl 68 rfl
      have e72 : a_.tmps[72]? = some (.bool false) := hs 20 (by kernel_rfl) _ rfl 72 rfl
      refine ⟨_, rfl, fun KR hKR => ?_⟩
      rw [if_pos (show Region.wanted _ _ = true from rfl)]
      clear hs ho
      go_simp
      exact hKR _ (Below.refl _ _)
  · intro i_ T_ Z_ S_ k_ hi a_ W
    have hl := (List.getElem?_eq_some_iff.1 hi).1
    rcases (show i_ = 0 ∨ i_ = 1 ∨ i_ = 2 ∨ i_ = 3 ∨ i_ = 4 ∨ i_ = 5 ∨ i_ = 6 ∨ i_ = 7 ∨ i_ = 8 ∨ i_ = 9 ∨ i_ = 10 ∨ i_ = 11 ∨ i_ = 12 ∨ i_ = 13 ∨ i_ = 14 ∨ i_ = 15 ∨ i_ = 16 ∨ i_ = 17 ∨ i_ = 18 ∨ i_ = 19 ∨ i_ = 20 ∨ i_ = 21 by simp at hl; omega) with rfl | rfl | rfl | rfl | rfl | rfl | rfl | rfl | rfl | rfl | rfl | rfl | rfl | rfl | rfl | rfl | rfl | rfl | rfl | rfl | rfl | rfl
    · exact Lf.noConfusion (Option.some.inj (show some (Lf.v (.agg (RS j))) = some (Lf.nw T_ Z_ S_ k_) from hi))
    · exact Lf.noConfusion (Option.some.inj (show some (Lf.v (.agg (RS j))) = some (Lf.nw T_ Z_ S_ k_) from hi))
    · exact Lf.noConfusion (Option.some.inj (show some (Lf.v (.agg (RS j))) = some (Lf.nw T_ Z_ S_ k_) from hi))
    · exact Lf.noConfusion (Option.some.inj (show some (Lf.v (.bool false)) = some (Lf.nw T_ Z_ S_ k_) from hi))
    · exact Lf.noConfusion (Option.some.inj (show some (Lf.v (.bool false)) = some (Lf.nw T_ Z_ S_ k_) from hi))
    · exact Lf.noConfusion (Option.some.inj (show some (Lf.v (.int .i64 je)) = some (Lf.nw T_ Z_ S_ k_) from hi))
    · exact Lf.noConfusion (Option.some.inj (show some (Lf.v (.int .i64 je)) = some (Lf.nw T_ Z_ S_ k_) from hi))
    · exact Lf.noConfusion (Option.some.inj (show some (Lf.v (.int .i64 je)) = some (Lf.nw T_ Z_ S_ k_) from hi))
    · exact Lf.noConfusion (Option.some.inj (show some (Lf.v (.bool false)) = some (Lf.nw T_ Z_ S_ k_) from hi))
    · exact Lf.noConfusion (Option.some.inj (show some (Lf.v (.bool false)) = some (Lf.nw T_ Z_ S_ k_) from hi))
    · exact Lf.noConfusion (Option.some.inj (show some (Lf.v (.bool false)) = some (Lf.nw T_ Z_ S_ k_) from hi))
    · exact Lf.noConfusion (Option.some.inj (show some (Lf.v (.agg (RS s))) = some (Lf.nw T_ Z_ S_ k_) from hi))
    · exact Lf.noConfusion (Option.some.inj (show some (Lf.v (.agg (RS s))) = some (Lf.nw T_ Z_ S_ k_) from hi))
    · exact Lf.noConfusion (Option.some.inj (show some (Lf.v (.agg (RS s))) = some (Lf.nw T_ Z_ S_ k_) from hi))
    · exact Lf.noConfusion (Option.some.inj (show some (Lf.v (.bool false)) = some (Lf.nw T_ Z_ S_ k_) from hi))
    · exact Lf.noConfusion (Option.some.inj (show some (Lf.v (.bool false)) = some (Lf.nw T_ Z_ S_ k_) from hi))
    · exact Lf.noConfusion (Option.some.inj (show some (Lf.v (.bool false)) = some (Lf.nw T_ Z_ S_ k_) from hi))
    · exact Lf.noConfusion (Option.some.inj (show some (Lf.v (.int .i64 se)) = some (Lf.nw T_ Z_ S_ k_) from hi))
    · exact Lf.noConfusion (Option.some.inj (show some (Lf.v (.int .i64 se)) = some (Lf.nw T_ Z_ S_ k_) from hi))
    · exact Lf.noConfusion (Option.some.inj (show some (Lf.v (.int .i64 se)) = some (Lf.nw T_ Z_ S_ k_) from hi))
    · exact Lf.noConfusion (Option.some.inj (show some (Lf.v (.bool false)) = some (Lf.nw T_ Z_ S_ k_) from hi))
    · exact Lf.noConfusion (Option.some.inj (show some (Lf.v (.bool false)) = some (Lf.nw T_ Z_ S_ k_) from hi))
  · intro i_ m_ T_ Z_ S_ hi hm_ a_ W g_ hp_ hg hs
    have hl := (List.getElem?_eq_some_iff.1 hi).1
    rcases (show i_ = 0 ∨ i_ = 1 ∨ i_ = 2 ∨ i_ = 3 ∨ i_ = 4 ∨ i_ = 5 ∨ i_ = 6 ∨ i_ = 7 ∨ i_ = 8 ∨ i_ = 9 ∨ i_ = 10 ∨ i_ = 11 ∨ i_ = 12 ∨ i_ = 13 ∨ i_ = 14 ∨ i_ = 15 ∨ i_ = 16 ∨ i_ = 17 ∨ i_ = 18 ∨ i_ = 19 ∨ i_ = 20 ∨ i_ = 21 by simp at hl; omega) with rfl | rfl | rfl | rfl | rfl | rfl | rfl | rfl | rfl | rfl | rfl | rfl | rfl | rfl | rfl | rfl | rfl | rfl | rfl | rfl | rfl | rfl
    · exact Lf.noConfusion (Option.some.inj (show some (Lf.v (.agg (RS j))) = some (Lf.st m_) from hi))
    · exact Lf.noConfusion (Option.some.inj (show some (Lf.v (.agg (RS j))) = some (Lf.st m_) from hi))
    · exact Lf.noConfusion (Option.some.inj (show some (Lf.v (.agg (RS j))) = some (Lf.st m_) from hi))
    · exact Lf.noConfusion (Option.some.inj (show some (Lf.v (.bool false)) = some (Lf.st m_) from hi))
    · exact Lf.noConfusion (Option.some.inj (show some (Lf.v (.bool false)) = some (Lf.st m_) from hi))
    · exact Lf.noConfusion (Option.some.inj (show some (Lf.v (.int .i64 je)) = some (Lf.st m_) from hi))
    · exact Lf.noConfusion (Option.some.inj (show some (Lf.v (.int .i64 je)) = some (Lf.st m_) from hi))
    · exact Lf.noConfusion (Option.some.inj (show some (Lf.v (.int .i64 je)) = some (Lf.st m_) from hi))
    · exact Lf.noConfusion (Option.some.inj (show some (Lf.v (.bool false)) = some (Lf.st m_) from hi))
    · exact Lf.noConfusion (Option.some.inj (show some (Lf.v (.bool false)) = some (Lf.st m_) from hi))
    · exact Lf.noConfusion (Option.some.inj (show some (Lf.v (.bool false)) = some (Lf.st m_) from hi))
    · exact Lf.noConfusion (Option.some.inj (show some (Lf.v (.agg (RS s))) = some (Lf.st m_) from hi))
    · exact Lf.noConfusion (Option.some.inj (show some (Lf.v (.agg (RS s))) = some (Lf.st m_) from hi))
    · exact Lf.noConfusion (Option.some.inj (show some (Lf.v (.agg (RS s))) = some (Lf.st m_) from hi))
    · exact Lf.noConfusion (Option.some.inj (show some (Lf.v (.bool false)) = some (Lf.st m_) from hi))
    · exact Lf.noConfusion (Option.some.inj (show some (Lf.v (.bool false)) = some (Lf.st m_) from hi))
    · exact Lf.noConfusion (Option.some.inj (show some (Lf.v (.bool false)) = some (Lf.st m_) from hi))
    · exact Lf.noConfusion (Option.some.inj (show some (Lf.v (.int .i64 se)) = some (Lf.st m_) from hi))
    · exact Lf.noConfusion (Option.some.inj (show some (Lf.v (.int .i64 se)) = some (Lf.st m_) from hi))
    · exact Lf.noConfusion (Option.some.inj (show some (Lf.v (.int .i64 se)) = some (Lf.st m_) from hi))
    · exact Lf.noConfusion (Option.some.inj (show some (Lf.v (.bool false)) = some (Lf.st m_) from hi))
    · exact Lf.noConfusion (Option.some.inj (show some (Lf.v (.bool false)) = some (Lf.st m_) from hi))
  · intro b_ vals_ W hall hI
    have hB := hI.bel
    have v0 : vals_ 0 = .agg (RS j) := hI.has 0 (Nat.le_of_ble_eq_true rfl) (hall 0 (Nat.le_of_ble_eq_true rfl))
    have v1 : vals_ 1 = .agg (RS j) := hI.has 1 (Nat.le_of_ble_eq_true rfl) (hall 1 (Nat.le_of_ble_eq_true rfl))
    have v2 : vals_ 2 = .agg (RS j) := hI.has 2 (Nat.le_of_ble_eq_true rfl) (hall 2 (Nat.le_of_ble_eq_true rfl))
    have v3 : vals_ 3 = .bool false := hI.has 3 (Nat.le_of_ble_eq_true rfl) (hall 3 (Nat.le_of_ble_eq_true rfl))
    have v4 : vals_ 4 = .bool false := hI.has 4 (Nat.le_of_ble_eq_true rfl) (hall 4 (Nat.le_of_ble_eq_true rfl))
    have v5 : vals_ 5 = .int .i64 je := hI.has 5 (Nat.le_of_ble_eq_true rfl) (hall 5 (Nat.le_of_ble_eq_true rfl))
    have v6 : vals_ 6 = .int .i64 je := hI.has 6 (Nat.le_of_ble_eq_true rfl) (hall 6 (Nat.le_of_ble_eq_true rfl))
    have v7 : vals_ 7 = .int .i64 je := hI.has 7 (Nat.le_of_ble_eq_true rfl) (hall 7 (Nat.le_of_ble_eq_true rfl))
    have v8 : vals_ 8 = .bool false := hI.has 8 (Nat.le_of_ble_eq_true rfl) (hall 8 (Nat.le_of_ble_eq_true rfl))
    have v9 : vals_ 9 = .bool false := hI.has 9 (Nat.le_of_ble_eq_true rfl) (hall 9 (Nat.le_of_ble_eq_true rfl))
    have v10 : vals_ 10 = .bool false := hI.has 10 (Nat.le_of_ble_eq_true rfl) (hall 10 (Nat.le_of_ble_eq_true rfl))
    have v11 : vals_ 11 = .agg (RS s) := hI.has 11 (Nat.le_of_ble_eq_true rfl) (hall 11 (Nat.le_of_ble_eq_true rfl))
    have v12 : vals_ 12 = .agg (RS s) := hI.has 12 (Nat.le_of_ble_eq_true rfl) (hall 12 (Nat.le_of_ble_eq_true rfl))
    have v13 : vals_ 13 = .agg (RS s) := hI.has 13 (Nat.le_of_ble_eq_true rfl) (hall 13 (Nat.le_of_ble_eq_true rfl))
    have v14 : vals_ 14 = .bool false := hI.has 14 (Nat.le_of_ble_eq_true rfl) (hall 14 (Nat.le_of_ble_eq_true rfl))
    have v15 : vals_ 15 = .bool false := hI.has 15 (Nat.le_of_ble_eq_true rfl) (hall 15 (Nat.le_of_ble_eq_true rfl))
    have v16 : vals_ 16 = .bool false := hI.has 16 (Nat.le_of_ble_eq_true rfl) (hall 16 (Nat.le_of_ble_eq_true rfl))
    have v17 : vals_ 17 = .int .i64 se := hI.has 17 (Nat.le_of_ble_eq_true rfl) (hall 17 (Nat.le_of_ble_eq_true rfl))
    have v18 : vals_ 18 = .int .i64 se := hI.has 18 (Nat.le_of_ble_eq_true rfl) (hall 18 (Nat.le_of_ble_eq_true rfl))
    have v19 : vals_ 19 = .int .i64 se := hI.has 19 (Nat.le_of_ble_eq_true rfl) (hall 19 (Nat.le_of_ble_eq_true rfl))
    have v20 : vals_ 20 = .bool false := hI.has 20 (Nat.le_of_ble_eq_true rfl) (hall 20 (Nat.le_of_ble_eq_true rfl))
    have v21 : vals_ 21 = .bool false := hI.has 21 (Nat.le_of_ble_eq_true rfl) (hall 21 (Nat.le_of_ble_eq_true rfl))
    simp only [List.length_cons, List.length_nil, Nat.zero_add, Nat.reduceAdd, List.size_toArray, slots, if_true, dstOf, List.getElem?_toArray, List.getElem?_cons_zero, List.getElem?_cons_succ, Option.bind_some, Act.put, List.setIfInBounds_toArray, List.set_cons_zero, List.set_cons_succ, v0, v1, v2, v3, v4, v5, v6, v7, v8, v9, v10, v11, v12, v13, v14, v15, v16, v17, v18, v19, v20, v21]
    clear hI hall v0 v1 v2 v3 v4 v5 v6 v7 v8 v9 v10 v11 v12 v13 v14 v15 v16 v17 v18 v19 v20 v21
    change wpAny _ _ _ _ 0 _ _ _
    refine wpAny_done (by kernel_rfl) ?_ _
    have hF := All.below hF hB
    have hBW := bel hBW hB
    obtain ⟨WZ, rfl⟩ : ∃ WZ, WZ = W := ⟨_, rfl⟩
    clear hB
    go_wp2_with (first
      | (refine wpList_load_on (by rfl) 23 (.tmp 5) rfl _ rfl 23 (RS a) (0, 0) _ (hF (w.heap.size, 23, a) (by simp)) Try.underlying23 rfl (info23 _) ?_)
      | (refine wpList_load_on (by rfl) 23 (.tmp 6) rfl _ rfl 23 (RS b) (0, 0) _ (hF (w.heap.size + 1, 23, b) (by simp)) Try.underlying23 rfl (info23 _) ?_)
      | (refine wpList_load_on (by rfl) 24 (.tmp 11) rfl _ rfl 24 (RS a) (0, 0) _ (hF (w1.heap.size, 24, a) (by simp)) Try.underlying24 rfl (info24 _) ?_)
      | (refine wpList_load_on (by rfl) 24 (.tmp 12) rfl _ rfl 24 (RS b) (0, 0) _ (hF (w3.heap.size, 24, b) (by simp)) Try.underlying24 rfl (info24 _) ?_)
      | (go_at_call 25; refine (lessR_is _ _ _ HL.out _).mono ?_; rintro e w13 ⟨v1, rfl, hO1, hb⟩; obtain ⟨A1, c1, rfl⟩ := own_slice hO1; have hO1 := Lib.hid hO1; have hF := All.below hF hb; have hBW := bel hBW hb; clear hb)
      | (go_at_call 26; refine (lessD_is _ _ _ HL.out _).mono ?_; rintro e w14 ⟨v2, rfl, hO2, hb⟩; obtain ⟨A2, c2, rfl⟩ := own_slice hO2; have hO1 := Lib.hid (pw_own_below hO1.out hb); have hO2 := Lib.hid hO2; have hF := All.below hF hb; have hBW := bel hBW hb; clear hb))
    have hFH := Lib.hid hF
    clear hF
    go_loopw [23] (fun t wr => ∃ k : Nat, k ≤ l.length ∧ t = .int .i64 k ∧ Hid (Below w14.heap.size w14 wr)) (fun t _ => l.length - (intOf t).toNat)
    case atStart => exact ⟨0, by omega, rfl, Lib.hid (Below.refl _ _)⟩
    case round =>
      obtain ⟨k, hk, rfl, hB3⟩ := hrel
      have hO1 := Lib.hid (pw_own_below hO1.out hB3.out)
      have hO2 := Lib.hid (pw_own_below hO2.out hB3.out)
      have hF := All.below hFH.out hB3.out
      have hFH := Lib.hid hF
      clear hF
      by_cases q' : k < l.length
      · obtain ⟨g1, cap1, h1, _, _⟩ := hO1.out.form (by omega)
        obtain rfl : A1 = some ⟨g1, 0, none⟩ := by injection h1
        obtain ⟨g2, cap2, h2, _, _⟩ := hO2.out.form (by omega)
        obtain rfl : A2 = some ⟨g2, 0, none⟩ := by injection h2
        clear h1 h2
        obtain ⟨r, hr⟩ : ∃ r, l[k]? = some r := ⟨_, List.getElem?_eq_getElem q'⟩
        have Hlk := Lib.hid hr
        clear hr
        go_wp2
        refine drawn_st (w := wr) ([Lf.v (.slice (some ⟨g1, 0, none⟩) l.length c1), Lf.v (.int .i64 k), Lf.v (.pointer (some ⟨g1, k * 4, none⟩)), Lf.v (.agg (RS r)), Lf.v (.agg (RS r)), Lf.v (.slice (some ⟨g2, 0, none⟩) l.length c2), Lf.v (.int .i64 k), Lf.v (.pointer (some ⟨g2, k * 4, none⟩)), Lf.v (.agg (RS r)), Lf.v (.bool false)] : List Lf) (by kernel_rfl) (by kernel_rfl) (by kernel_rfl) (by kernel_rfl) ?_ ?_ ?_ ?_
        · intro i_ v_ hi a_ W hs ho hB
          have hl := (List.getElem?_eq_some_iff.1 hi).1
          rcases (show i_ = 0 ∨ i_ = 1 ∨ i_ = 2 ∨ i_ = 3 ∨ i_ = 4 ∨ i_ = 5 ∨ i_ = 6 ∨ i_ = 7 ∨ i_ = 8 ∨ i_ = 9 by simp at hl; omega) with rfl | rfl | rfl | rfl | rfl | rfl | rfl | rfl | rfl | rfl
          · obtain rfl : (.slice (some ⟨g1, 0, none⟩) l.length c1) = v_ := Lf.v.inj (Option.some.inj (show some (Lf.v (.slice (some ⟨g1, 0, none⟩) l.length c1)) = some (Lf.v v_) from hi))
            clear hi hl
            have e21 : a_.tmps[21]? = some (.slice (some ⟨g1, 0, none⟩) l.length c1) := (ho 21 (by kernel_rfl)).trans rfl
            refine ⟨_, rfl, fun KR hKR => ?_⟩
            rw [if_pos (show Region.wanted _ _ = true from rfl)]
            clear hs ho
            go_simp
            exact hKR _ (Below.refl _ _)
          · obtain rfl : (.int .i64 k) = v_ := Lf.v.inj (Option.some.inj (show some (Lf.v (.int .i64 k)) = some (Lf.v v_) from hi))
            clear hi hl
            have e23 : a_.tmps[23]? = some (.int .i64 k) := (ho 23 (by kernel_rfl)).trans rfl
            refine ⟨_, rfl, fun KR hKR => ?_⟩
            rw [if_pos (show Region.wanted _ _ = true from rfl)]
            clear hs ho
            go_simp
            exact hKR _ (Below.refl _ _)
          · obtain rfl : (.pointer (some ⟨g1, k * 4, none⟩)) = v_ := Lf.v.inj (Option.some.inj (show some (Lf.v (.pointer (some ⟨g1, k * 4, none⟩))) = some (Lf.v v_) from hi))
            clear hi hl
            have e91 : a_.tmps[91]? = some (.slice (some ⟨g1, 0, none⟩) l.length c1) := hs 0 (by kernel_rfl) _ rfl 91 rfl
            have e92 : a_.tmps[92]? = some (.int .i64 k) := hs 1 (by kernel_rfl) _ rfl 92 rfl
            refine ⟨_, rfl, fun KR hKR => ?_⟩
            rw [if_pos (show Region.wanted _ _ = true from rfl)]
            clear hs ho
            go_simp
            exact hKR _ (Below.refl _ _)
          · obtain rfl : (.agg (RS r)) = v_ := Lf.v.inj (Option.some.inj (show some (Lf.v (.agg (RS r))) = some (Lf.v v_) from hi))
            clear hi hl
            have e93 : a_.tmps[93]? = some (.pointer (some ⟨g1, k * 4, none⟩)) := hs 2 (by kernel_rfl) _ rfl 93 rfl
            refine ⟨_, rfl, fun KR hKR => ?_⟩
            rw [if_pos (show Region.wanted _ _ = true from rfl)]
            clear hs ho
            (refine wp_load_mid 24 (.tmp 93) rfl g1 (k * 4) (by simp [Act.eval, e93]) (RS r).toList _ (row_range (pw_own_below hO1.out hB) Hlk.out) Try.underlying24 rfl (info24 r) ?_; exact hKR _ (Below.refl _ _))
          · obtain rfl : (.agg (RS r)) = v_ := Lf.v.inj (Option.some.inj (show some (Lf.v (.agg (RS r))) = some (Lf.v v_) from hi))
            clear hi hl
            have e94 : a_.tmps[94]? = some (.agg (RS r)) := hs 3 (by kernel_rfl) _ rfl 94 rfl
            refine ⟨_, rfl, fun KR hKR => ?_⟩
            rw [if_pos (show Region.wanted _ _ = true from rfl)]
            clear hs ho
            go_simp
            (go_at_call 24; refine (refR _ _).mono ?_; rintro e w1 ⟨rfl, hb⟩)
            exact hKR _ hb
          · obtain rfl : (.slice (some ⟨g2, 0, none⟩) l.length c2) = v_ := Lf.v.inj (Option.some.inj (show some (Lf.v (.slice (some ⟨g2, 0, none⟩) l.length c2)) = some (Lf.v v_) from hi))
            clear hi hl
            have e22 : a_.tmps[22]? = some (.slice (some ⟨g2, 0, none⟩) l.length c2) := (ho 22 (by kernel_rfl)).trans rfl
            refine ⟨_, rfl, fun KR hKR => ?_⟩
            rw [if_pos (show Region.wanted _ _ = true from rfl)]
            clear hs ho
            go_simp
            exact hKR _ (Below.refl _ _)
          · obtain rfl : (.int .i64 k) = v_ := Lf.v.inj (Option.some.inj (show some (Lf.v (.int .i64 k)) = some (Lf.v v_) from hi))
            clear hi hl
            have e23 : a_.tmps[23]? = some (.int .i64 k) := (ho 23 (by kernel_rfl)).trans rfl
            refine ⟨_, rfl, fun KR hKR => ?_⟩
            rw [if_pos (show Region.wanted _ _ = true from rfl)]
            clear hs ho
            go_simp
            exact hKR _ (Below.refl _ _)
          · obtain rfl : (.pointer (some ⟨g2, k * 4, none⟩)) = v_ := Lf.v.inj (Option.some.inj (show some (Lf.v (.pointer (some ⟨g2, k * 4, none⟩))) = some (Lf.v v_) from hi))
            clear hi hl
            have e96 : a_.tmps[96]? = some (.slice (some ⟨g2, 0, none⟩) l.length c2) := hs 5 (by kernel_rfl) _ rfl 96 rfl
            have e97 : a_.tmps[97]? = some (.int .i64 k) := hs 6 (by kernel_rfl) _ rfl 97 rfl
            refine ⟨_, rfl, fun KR hKR => ?_⟩
            rw [if_pos (show Region.wanted _ _ = true from rfl)]
            clear hs ho
            go_simp
            exact hKR _ (Below.refl _ _)
          · obtain rfl : (.agg (RS r)) = v_ := Lf.v.inj (Option.some.inj (show some (Lf.v (.agg (RS r))) = some (Lf.v v_) from hi))
            clear hi hl
            have e98 : a_.tmps[98]? = some (.pointer (some ⟨g2, k * 4, none⟩)) := hs 7 (by kernel_rfl) _ rfl 98 rfl
            refine ⟨_, rfl, fun KR hKR => ?_⟩
            rw [if_pos (show Region.wanted _ _ = true from rfl)]
            clear hs ho
            (refine wp_load_mid 23 (.tmp 98) rfl g2 (k * 4) (by simp [Act.eval, e98]) (RS r).toList _ (row_range (pw_own_below hO2.out hB) Hlk.out) Try.underlying23 rfl (info23 r) ?_; exact hKR _ (Below.refl _ _))
          · obtain rfl : (.bool false) = v_ := Lf.v.inj (Option.some.inj (show some (Lf.v (.bool false)) = some (Lf.v v_) from hi))
            clear hi hl
            have e95 : a_.tmps[95]? = some (.agg (RS r)) := hs 4 (by kernel_rfl) _ rfl 95 rfl
            have e99 : a_.tmps[99]? = some (.agg (RS r)) := hs 8 (by kernel_rfl) _ rfl 99 rfl
            refine ⟨_, rfl, fun KR hKR => ?_⟩
            rw [if_pos (show Region.wanted _ _ = true from rfl)]
            clear hs ho
            go_simp
            exact hKR _ (Below.refl _ _)
        · intro i_ T_ Z_ S_ k_ hi a_ W
          have hl := (List.getElem?_eq_some_iff.1 hi).1
          rcases (show i_ = 0 ∨ i_ = 1 ∨ i_ = 2 ∨ i_ = 3 ∨ i_ = 4 ∨ i_ = 5 ∨ i_ = 6 ∨ i_ = 7 ∨ i_ = 8 ∨ i_ = 9 by simp at hl; omega) with rfl | rfl | rfl | rfl | rfl | rfl | rfl | rfl | rfl | rfl
          · exact Lf.noConfusion (Option.some.inj (show some (Lf.v (.slice (some ⟨g1, 0, none⟩) l.length c1)) = some (Lf.nw T_ Z_ S_ k_) from hi))
          · exact Lf.noConfusion (Option.some.inj (show some (Lf.v (.int .i64 k)) = some (Lf.nw T_ Z_ S_ k_) from hi))
          · exact Lf.noConfusion (Option.some.inj (show some (Lf.v (.pointer (some ⟨g1, k * 4, none⟩))) = some (Lf.nw T_ Z_ S_ k_) from hi))
          · exact Lf.noConfusion (Option.some.inj (show some (Lf.v (.agg (RS r))) = some (Lf.nw T_ Z_ S_ k_) from hi))
          · exact Lf.noConfusion (Option.some.inj (show some (Lf.v (.agg (RS r))) = some (Lf.nw T_ Z_ S_ k_) from hi))
          · exact Lf.noConfusion (Option.some.inj (show some (Lf.v (.slice (some ⟨g2, 0, none⟩) l.length c2)) = some (Lf.nw T_ Z_ S_ k_) from hi))
          · exact Lf.noConfusion (Option.some.inj (show some (Lf.v (.int .i64 k)) = some (Lf.nw T_ Z_ S_ k_) from hi))
          · exact Lf.noConfusion (Option.some.inj (show some (Lf.v (.pointer (some ⟨g2, k * 4, none⟩))) = some (Lf.nw T_ Z_ S_ k_) from hi))
          · exact Lf.noConfusion (Option.some.inj (show some (Lf.v (.agg (RS r))) = some (Lf.nw T_ Z_ S_ k_) from hi))
          · exact Lf.noConfusion (Option.some.inj (show some (Lf.v (.bool false)) = some (Lf.nw T_ Z_ S_ k_) from hi))
        · intro i_ m_ T_ Z_ S_ hi hm_ a_ W g_ hp_ hg hs
          have hl := (List.getElem?_eq_some_iff.1 hi).1
          rcases (show i_ = 0 ∨ i_ = 1 ∨ i_ = 2 ∨ i_ = 3 ∨ i_ = 4 ∨ i_ = 5 ∨ i_ = 6 ∨ i_ = 7 ∨ i_ = 8 ∨ i_ = 9 by simp at hl; omega) with rfl | rfl | rfl | rfl | rfl | rfl | rfl | rfl | rfl | rfl
          · exact Lf.noConfusion (Option.some.inj (show some (Lf.v (.slice (some ⟨g1, 0, none⟩) l.length c1)) = some (Lf.st m_) from hi))
          · exact Lf.noConfusion (Option.some.inj (show some (Lf.v (.int .i64 k)) = some (Lf.st m_) from hi))
          · exact Lf.noConfusion (Option.some.inj (show some (Lf.v (.pointer (some ⟨g1, k * 4, none⟩))) = some (Lf.st m_) from hi))
          · exact Lf.noConfusion (Option.some.inj (show some (Lf.v (.agg (RS r))) = some (Lf.st m_) from hi))
          · exact Lf.noConfusion (Option.some.inj (show some (Lf.v (.agg (RS r))) = some (Lf.st m_) from hi))
          · exact Lf.noConfusion (Option.some.inj (show some (Lf.v (.slice (some ⟨g2, 0, none⟩) l.length c2)) = some (Lf.st m_) from hi))
          · exact Lf.noConfusion (Option.some.inj (show some (Lf.v (.int .i64 k)) = some (Lf.st m_) from hi))
          · exact Lf.noConfusion (Option.some.inj (show some (Lf.v (.pointer (some ⟨g2, k * 4, none⟩))) = some (Lf.st m_) from hi))
          · exact Lf.noConfusion (Option.some.inj (show some (Lf.v (.agg (RS r))) = some (Lf.st m_) from hi))
          · exact Lf.noConfusion (Option.some.inj (show some (Lf.v (.bool false)) = some (Lf.st m_) from hi))
        · intro b_ vals_ W hall hI
          have hB := hI.bel
          have v0 : vals_ 0 = .slice (some ⟨g1, 0, none⟩) l.length c1 := hI.has 0 (Nat.le_of_ble_eq_true rfl) (hall 0 (Nat.le_of_ble_eq_true rfl))
          have v1 : vals_ 1 = .int .i64 k := hI.has 1 (Nat.le_of_ble_eq_true rfl) (hall 1 (Nat.le_of_ble_eq_true rfl))
          have v2 : vals_ 2 = .pointer (some ⟨g1, k * 4, none⟩) := hI.has 2 (Nat.le_of_ble_eq_true rfl) (hall 2 (Nat.le_of_ble_eq_true rfl))
          have v3 : vals_ 3 = .agg (RS r) := hI.has 3 (Nat.le_of_ble_eq_true rfl) (hall 3 (Nat.le_of_ble_eq_true rfl))
          have v4 : vals_ 4 = .agg (RS r) := hI.has 4 (Nat.le_of_ble_eq_true rfl) (hall 4 (Nat.le_of_ble_eq_true rfl))
          have v5 : vals_ 5 = .slice (some ⟨g2, 0, none⟩) l.length c2 := hI.has 5 (Nat.le_of_ble_eq_true rfl) (hall 5 (Nat.le_of_ble_eq_true rfl))
          have v6 : vals_ 6 = .int .i64 k := hI.has 6 (Nat.le_of_ble_eq_true rfl) (hall 6 (Nat.le_of_ble_eq_true rfl))
          have v7 : vals_ 7 = .pointer (some ⟨g2, k * 4, none⟩) := hI.has 7 (Nat.le_of_ble_eq_true rfl) (hall 7 (Nat.le_of_ble_eq_true rfl))
          have v8 : vals_ 8 = .agg (RS r) := hI.has 8 (Nat.le_of_ble_eq_true rfl) (hall 8 (Nat.le_of_ble_eq_true rfl))
          have v9 : vals_ 9 = .bool false := hI.has 9 (Nat.le_of_ble_eq_true rfl) (hall 9 (Nat.le_of_ble_eq_true rfl))
          simp only [List.length_cons, List.length_nil, Nat.zero_add, Nat.reduceAdd, List.size_toArray, slots, if_true, dstOf, List.getElem?_toArray, List.getElem?_cons_zero, List.getElem?_cons_succ, Option.bind_some, Act.put, List.setIfInBounds_toArray, List.set_cons_zero, List.set_cons_succ, v0, v1, v2, v3, v4, v5, v6, v7, v8, v9]
          clear hI hall v0 v1 v2 v3 v4 v5 v6 v7 v8 v9
          change wpAny _ _ _ _ 0 _ _ _
          refine wpAny_done (by kernel_rfl) ?_ _
          have hBr := hB
          clear hB
          obtain ⟨WY, rfl⟩ : ∃ WY, WY = W := ⟨_, rfl⟩
          go_wp2
          go_roundw
          case rel => exact ⟨k + 1, by omega, by go_num, Lib.hid (hB3.out.trans (hBr.mono hB3.out.size))⟩
          case measure =>
            simp [intOf]
            omega
      · obtain rfl : k = l.length := by omega
        have hF := hFH.out
        have hBW := bel hBW hB3.out
        go_wp2
        refine drawn_st (w := wr) ([Lf.v (.agg (RS a)), Lf.v (.bool a.right), Lf.v (.agg (RS a)), Lf.v (.bool a.right), Lf.v (.bool true), Lf.v (.bool true), Lf.v (.agg (RS a)), Lf.v (.bool a.empty), Lf.v (.agg (RS a)), Lf.v (.bool a.empty), Lf.v (.bool true), Lf.v (.bool true), Lf.v (.bool true), Lf.v (.agg (RS a)), Lf.v (.int .i64 x), Lf.v (.int .i64 y), Lf.v (.bool (holdsF a x y)), Lf.v (.agg (RS a)), Lf.v (.int .i64 x), Lf.v (.int .i64 y), Lf.v (.bool (holdsF a x y)), Lf.v (.bool true), Lf.v (.bool true), Lf.v (.bool true), Lf.v (.agg (RS a)), Lf.v (.agg (RS b)), Lf.v (.bool (withinF a b)), Lf.v (.agg (RS a)), Lf.v (.agg (RS b)), Lf.v (.bool (withinF a b)), Lf.v (.bool true), Lf.v (.bool true), Lf.v (.bool true), Lf.v (.agg (RS a)), Lf.v (.agg (RS b)), Lf.v (.agg (RS (meetF a b))), Lf.v (.agg (RS (meetF a b))), Lf.v (.agg (RS a)), Lf.v (.agg (RS b)), Lf.v (.agg (RS (meetF a b))), Lf.v (.bool true), Lf.v (.bool true), Lf.v (.bool true), Lf.v (.bool true), Lf.v (.bool true), Lf.v (.bool true)] : List Lf) (by kernel_rfl) (by kernel_rfl) (by kernel_rfl) (by kernel_rfl) ?_ ?_ ?_ ?_
        · intro i_ v_ hi a_ W hs ho hB
          have hl := (List.getElem?_eq_some_iff.1 hi).1
          rcases (show i_ = 0 ∨ i_ = 1 ∨ i_ = 2 ∨ i_ = 3 ∨ i_ = 4 ∨ i_ = 5 ∨ i_ = 6 ∨ i_ = 7 ∨ i_ = 8 ∨ i_ = 9 ∨ i_ = 10 ∨ i_ = 11 ∨ i_ = 12 ∨ i_ = 13 ∨ i_ = 14 ∨ i_ = 15 ∨ i_ = 16 ∨ i_ = 17 ∨ i_ = 18 ∨ i_ = 19 ∨ i_ = 20 ∨ i_ = 21 ∨ i_ = 22 ∨ i_ = 23 ∨ i_ = 24 ∨ i_ = 25 ∨ i_ = 26 ∨ i_ = 27 ∨ i_ = 28 ∨ i_ = 29 ∨ i_ = 30 ∨ i_ = 31 ∨ i_ = 32 ∨ i_ = 33 ∨ i_ = 34 ∨ i_ = 35 ∨ i_ = 36 ∨ i_ = 37 ∨ i_ = 38 ∨ i_ = 39 ∨ i_ = 40 ∨ i_ = 41 ∨ i_ = 42 ∨ i_ = 43 ∨ i_ = 44 ∨ i_ = 45 by simp at hl; omega) with rfl | rfl | rfl | rfl | rfl | rfl | rfl | rfl | rfl | rfl | rfl | rfl | rfl | rfl | rfl | rfl | rfl | rfl | rfl | rfl | rfl | rfl | rfl | rfl | rfl | rfl | rfl | rfl | rfl | rfl | rfl | rfl | rfl | rfl | rfl | rfl | rfl | rfl | rfl | rfl | rfl | rfl | rfl | rfl | rfl | rfl
          · obtain rfl : (.agg (RS a)) = v_ := Lf.v.inj (Option.some.inj (show some (Lf.v (.agg (RS a))) = some (Lf.v v_) from hi))
            clear hi hl
            have e11 : a_.tmps[11]? = some (.pointer (some ⟨w1.heap.size, 0, none⟩)) := (ho 11 (by kernel_rfl)).trans rfl
            refine ⟨_, rfl, fun KR hKR => ?_⟩
            rw [if_pos (show Region.wanted _ _ = true from rfl)]
            refine wp_load_row 24 (.tmp 11) rfl _ (by simp [Act.eval, e11]) 24 _ (0, 0) _ ((hB.block _ (heap_lt (hF (w1.heap.size, 24, a) (by simp)))).trans (hF (w1.heap.size, 24, a) (by simp))) Try.underlying24 rfl (info24 _) ?_
            exact hKR _ (Below.refl _ _)
          · obtain rfl : (.bool a.right) = v_ := Lf.v.inj (Option.some.inj (show some (Lf.v (.bool a.right)) = some (Lf.v v_) from hi))
            clear hi hl
            have e101 : a_.tmps[101]? = some (.agg (RS a)) := hs 0 (by kernel_rfl) _ rfl 101 rfl
            refine ⟨_, rfl, fun KR hKR => ?_⟩
            rw [if_pos (show Region.wanted _ _ = true from rfl)]
            clear hs ho
            go_simp
            (go_at_call 8; refine (rightR _ _).mono ?_; rintro e w1 ⟨rfl, hb⟩)
            exact hKR _ hb
          · obtain rfl : (.agg (RS a)) = v_ := Lf.v.inj (Option.some.inj (show some (Lf.v (.agg (RS a))) = some (Lf.v v_) from hi))
            clear hi hl
            have e5 : a_.tmps[5]? = some (.pointer (some ⟨w.heap.size, 0, none⟩)) := (ho 5 (by kernel_rfl)).trans rfl
            refine ⟨_, rfl, fun KR hKR => ?_⟩
            rw [if_pos (show Region.wanted _ _ = true from rfl)]
            refine wp_load_row 23 (.tmp 5) rfl _ (by simp [Act.eval, e5]) 23 _ (0, 0) _ ((hB.block _ (heap_lt (hF (w.heap.size, 23, a) (by simp)))).trans (hF (w.heap.size, 23, a) (by simp))) Try.underlying23 rfl (info23 _) ?_
            exact hKR _ (Below.refl _ _)
          · obtain rfl : (.bool a.right) = v_ := Lf.v.inj (Option.some.inj (show some (Lf.v (.bool a.right)) = some (Lf.v v_) from hi))
            clear hi hl
            have e103 : a_.tmps[103]? = some (.agg (RS a)) := hs 2 (by kernel_rfl) _ rfl 103 rfl
            refine ⟨_, rfl, fun KR hKR => ?_⟩
            rw [if_pos (show Region.wanted _ _ = true from rfl)]
            clear hs ho
            go_simp
            (go_at_call 27; refine (rightD _ _).mono ?_; rintro e w1 ⟨rfl, hb⟩)
            exact hKR _ hb
          · obtain rfl : (.bool true) = v_ := Lf.v.inj (Option.some.inj (show some (Lf.v (.bool true)) = some (Lf.v v_) from hi))
            clear hi hl
            have e102 : a_.tmps[102]? = some (.bool a.right) := hs 1 (by kernel_rfl) _ rfl 102 rfl
            have e104 : a_.tmps[104]? = some (.bool a.right) := hs 3 (by kernel_rfl) _ rfl 104 rfl
            refine ⟨_, rfl, fun KR hKR => ?_⟩
            rw [if_pos (show Region.wanted _ _ = true from rfl)]
            clear hs ho
            go_simp
            exact hKR _ (Below.refl _ _)
          · obtain rfl : (.bool true) = v_ := Lf.v.inj (Option.some.inj (show some (Lf.v (.bool true)) = some (Lf.v v_) from hi))
            clear hi hl
            have e105 : a_.tmps[105]? = some (.bool true) := hs 4 (by kernel_rfl) _ rfl 105 rfl
            refine ⟨_, rfl, fun KR hKR => ?_⟩
            rw [if_pos (show Region.wanted _ _ = true from rfl)]
            clear hs ho
            go_simp
            exact hKR _ (Below.refl _ _)
          · obtain rfl : (.agg (RS a)) = v_ := Lf.v.inj (Option.some.inj (show some (Lf.v (.agg (RS a))) = some (Lf.v v_) from hi))
            clear hi hl
            have e11 : a_.tmps[11]? = some (.pointer (some ⟨w1.heap.size, 0, none⟩)) := (ho 11 (by kernel_rfl)).trans rfl
            have e106 : a_.tmps[106]? = some (.bool true) := hs 5 (by kernel_rfl) _ rfl 106 rfl
            refine ⟨_, rfl, fun KR hKR => ?_⟩
            rw [if_pos (wanted_of (j := 5) (d := 106) rfl rfl e106)]
            clear e106
            refine wp_load_row 24 (.tmp 11) rfl _ (by simp [Act.eval, e11]) 24 _ (0, 0) _ ((hB.block _ (heap_lt (hF (w1.heap.size, 24, a) (by simp)))).trans (hF (w1.heap.size, 24, a) (by simp))) Try.underlying24 rfl (info24 _) ?_
            exact hKR _ (Below.refl _ _)
          · obtain rfl : (.bool a.empty) = v_ := Lf.v.inj (Option.some.inj (show some (Lf.v (.bool a.empty)) = some (Lf.v v_) from hi))
            clear hi hl
            have e107 : a_.tmps[107]? = some (.agg (RS a)) := hs 6 (by kernel_rfl) _ rfl 107 rfl
            have e106 : a_.tmps[106]? = some (.bool true) := hs 5 (by kernel_rfl) _ rfl 106 rfl
            refine ⟨_, rfl, fun KR hKR => ?_⟩
            rw [if_pos (wanted_of (j := 5) (d := 106) rfl rfl e106)]
            clear e106
            clear hs ho
            go_simp
            (go_at_call 12; refine (emptyR _ _).mono ?_; rintro e w1 ⟨rfl, hb⟩)
            exact hKR _ hb
          · obtain rfl : (.agg (RS a)) = v_ := Lf.v.inj (Option.some.inj (show some (Lf.v (.agg (RS a))) = some (Lf.v v_) from hi))
            clear hi hl
            have e5 : a_.tmps[5]? = some (.pointer (some ⟨w.heap.size, 0, none⟩)) := (ho 5 (by kernel_rfl)).trans rfl
            have e106 : a_.tmps[106]? = some (.bool true) := hs 5 (by kernel_rfl) _ rfl 106 rfl
            refine ⟨_, rfl, fun KR hKR => ?_⟩
            rw [if_pos (wanted_of (j := 5) (d := 106) rfl rfl e106)]
            clear e106
            refine wp_load_row 23 (.tmp 5) rfl _ (by simp [Act.eval, e5]) 23 _ (0, 0) _ ((hB.block _ (heap_lt (hF (w.heap.size, 23, a) (by simp)))).trans (hF (w.heap.size, 23, a) (by simp))) Try.underlying23 rfl (info23 _) ?_
            exact hKR _ (Below.refl _ _)
          · obtain rfl : (.bool a.empty) = v_ := Lf.v.inj (Option.some.inj (show some (Lf.v (.bool a.empty)) = some (Lf.v v_) from hi))
            clear hi hl
            have e109 : a_.tmps[109]? = some (.agg (RS a)) := hs 8 (by kernel_rfl) _ rfl 109 rfl
            have e106 : a_.tmps[106]? = some (.bool true) := hs 5 (by kernel_rfl) _ rfl 106 rfl
            refine ⟨_, rfl, fun KR hKR => ?_⟩
            rw [if_pos (wanted_of (j := 5) (d := 106) rfl rfl e106)]
            clear e106
            clear hs ho
            go_simp
            (go_at_call 28; refine (emptyD _ _).mono ?_; rintro e w1 ⟨rfl, hb⟩)
            exact hKR _ hb
          · obtain rfl : (.bool true) = v_ := Lf.v.inj (Option.some.inj (show some (Lf.v (.bool true)) = some (Lf.v v_) from hi))
            clear hi hl
            have e108 : a_.tmps[108]? = some (.bool a.empty) := hs 7 (by kernel_rfl) _ rfl 108 rfl
            have e110 : a_.tmps[110]? = some (.bool a.empty) := hs 9 (by kernel_rfl) _ rfl 110 rfl
            have e106 : a_.tmps[106]? = some (.bool true) := hs 5 (by kernel_rfl) _ rfl 106 rfl
            refine ⟨_, rfl, fun KR hKR => ?_⟩
            rw [if_pos (wanted_of (j := 5) (d := 106) rfl rfl e106)]
            clear e106
            clear hs ho
            go_simp
            exact hKR _ (Below.refl _ _)
          · obtain rfl : (.bool true) = v_ := Lf.v.inj (Option.some.inj (show some (Lf.v (.bool true)) = some (Lf.v v_) from hi))
            clear hi hl
            have e106 : a_.tmps[106]? = some (.bool true) := hs 5 (by kernel_rfl) _ rfl 106 rfl
            have e111 : a_.tmps[111]? = some (.bool true) := hs 10 (by kernel_rfl) _ rfl 111 rfl
            refine ⟨_, rfl, fun KR hKR => ?_⟩
            rw [if_pos (show Region.wanted _ _ = true from rfl)]
            clear hs ho
            go_simp
            exact hKR _ (Below.refl _ _)
          · obtain rfl : (.bool true) = v_ := Lf.v.inj (Option.some.inj (show some (Lf.v (.bool true)) = some (Lf.v v_) from hi))
            clear hi hl
            have e112 : a_.tmps[112]? = some (.bool true) := hs 11 (by kernel_rfl) _ rfl 112 rfl
            refine ⟨_, rfl, fun KR hKR => ?_⟩
            rw [if_pos (show Region.wanted _ _ = true from rfl)]
            clear hs ho
            go_simp
            exact hKR _ (Below.refl _ _)
          · obtain rfl : (.agg (RS a)) = v_ := Lf.v.inj (Option.some.inj (show some (Lf.v (.agg (RS a))) = some (Lf.v v_) from hi))
            clear hi hl
            have e11 : a_.tmps[11]? = some (.pointer (some ⟨w1.heap.size, 0, none⟩)) := (ho 11 (by kernel_rfl)).trans rfl
            have e113 : a_.tmps[113]? = some (.bool true) := hs 12 (by kernel_rfl) _ rfl 113 rfl
            refine ⟨_, rfl, fun KR hKR => ?_⟩
            rw [if_pos (wanted_of (j := 12) (d := 113) rfl rfl e113)]
            clear e113
            refine wp_load_row 24 (.tmp 11) rfl _ (by simp [Act.eval, e11]) 24 _ (0, 0) _ ((hB.block _ (heap_lt (hF (w1.heap.size, 24, a) (by simp)))).trans (hF (w1.heap.size, 24, a) (by simp))) Try.underlying24 rfl (info24 _) ?_
            exact hKR _ (Below.refl _ _)
          · obtain rfl : (.int .i64 x) = v_ := Lf.v.inj (Option.some.inj (show some (Lf.v (.int .i64 x)) = some (Lf.v v_) from hi))
            clear hi hl
            have e2 : a_.tmps[2]? = some (.int .i64 x) := (ho 2 (by kernel_rfl)).trans rfl
            have e113 : a_.tmps[113]? = some (.bool true) := hs 12 (by kernel_rfl) _ rfl 113 rfl
            refine ⟨_, rfl, fun KR hKR => ?_⟩
            rw [if_pos (wanted_of (j := 12) (d := 113) rfl rfl e113)]
            clear e113
            clear hs ho
            go_simp
            exact hKR _ (Below.refl _ _)
          · obtain rfl : (.int .i64 y) = v_ := Lf.v.inj (Option.some.inj (show some (Lf.v (.int .i64 y)) = some (Lf.v v_) from hi))
            clear hi hl
            have e3 : a_.tmps[3]? = some (.int .i64 y) := (ho 3 (by kernel_rfl)).trans rfl
            have e113 : a_.tmps[113]? = some (.bool true) := hs 12 (by kernel_rfl) _ rfl 113 rfl
            refine ⟨_, rfl, fun KR hKR => ?_⟩
            rw [if_pos (wanted_of (j := 12) (d := 113) rfl rfl e113)]
            clear e113
            clear hs ho
            go_simp
            exact hKR _ (Below.refl _ _)
          · obtain rfl : (.bool (holdsF a x y)) = v_ := Lf.v.inj (Option.some.inj (show some (Lf.v (.bool (holdsF a x y))) = some (Lf.v v_) from hi))
            clear hi hl
            have e114 : a_.tmps[114]? = some (.agg (RS a)) := hs 13 (by kernel_rfl) _ rfl 114 rfl
            have e115 : a_.tmps[115]? = some (.int .i64 x) := hs 14 (by kernel_rfl) _ rfl 115 rfl
            have e116 : a_.tmps[116]? = some (.int .i64 y) := hs 15 (by kernel_rfl) _ rfl 116 rfl
            have e113 : a_.tmps[113]? = some (.bool true) := hs 12 (by kernel_rfl) _ rfl 113 rfl
            refine ⟨_, rfl, fun KR hKR => ?_⟩
            rw [if_pos (wanted_of (j := 12) (d := 113) rfl rfl e113)]
            clear e113
            clear hs ho
            go_simp
            (go_at_call 19; refine (holdsR _ _ _ _).mono ?_; rintro e w1 ⟨rfl, hb⟩)
            exact hKR _ hb
          · obtain rfl : (.agg (RS a)) = v_ := Lf.v.inj (Option.some.inj (show some (Lf.v (.agg (RS a))) = some (Lf.v v_) from hi))
            clear hi hl
            have e5 : a_.tmps[5]? = some (.pointer (some ⟨w.heap.size, 0, none⟩)) := (ho 5 (by kernel_rfl)).trans rfl
            have e113 : a_.tmps[113]? = some (.bool true) := hs 12 (by kernel_rfl) _ rfl 113 rfl
            refine ⟨_, rfl, fun KR hKR => ?_⟩
            rw [if_pos (wanted_of (j := 12) (d := 113) rfl rfl e113)]
            clear e113
            refine wp_load_row 23 (.tmp 5) rfl _ (by simp [Act.eval, e5]) 23 _ (0, 0) _ ((hB.block _ (heap_lt (hF (w.heap.size, 23, a) (by simp)))).trans (hF (w.heap.size, 23, a) (by simp))) Try.underlying23 rfl (info23 _) ?_
            exact hKR _ (Below.refl _ _)
          · obtain rfl : (.int .i64 x) = v_ := Lf.v.inj (Option.some.inj (show some (Lf.v (.int .i64 x)) = some (Lf.v v_) from hi))
            clear hi hl
            have e2 : a_.tmps[2]? = some (.int .i64 x) := (ho 2 (by kernel_rfl)).trans rfl
            have e113 : a_.tmps[113]? = some (.bool true) := hs 12 (by kernel_rfl) _ rfl 113 rfl
            refine ⟨_, rfl, fun KR hKR => ?_⟩
            rw [if_pos (wanted_of (j := 12) (d := 113) rfl rfl e113)]
            clear e113
            clear hs ho
            go_simp
            exact hKR _ (Below.refl _ _)
          · obtain rfl : (.int .i64 y) = v_ := Lf.v.inj (Option.some.inj (show some (Lf.v (.int .i64 y)) = some (Lf.v v_) from hi))
            clear hi hl
            have e3 : a_.tmps[3]? = some (.int .i64 y) := (ho 3 (by kernel_rfl)).trans rfl
            have e113 : a_.tmps[113]? = some (.bool true) := hs 12 (by kernel_rfl) _ rfl 113 rfl
            refine ⟨_, rfl, fun KR hKR => ?_⟩
            rw [if_pos (wanted_of (j := 12) (d := 113) rfl rfl e113)]
            clear e113
            clear hs ho
            go_simp
            exact hKR _ (Below.refl _ _)
          · obtain rfl : (.bool (holdsF a x y)) = v_ := Lf.v.inj (Option.some.inj (show some (Lf.v (.bool (holdsF a x y))) = some (Lf.v v_) from hi))
            clear hi hl
            have e118 : a_.tmps[118]? = some (.agg (RS a)) := hs 17 (by kernel_rfl) _ rfl 118 rfl
            have e119 : a_.tmps[119]? = some (.int .i64 x) := hs 18 (by kernel_rfl) _ rfl 119 rfl
            have e120 : a_.tmps[120]? = some (.int .i64 y) := hs 19 (by kernel_rfl) _ rfl 120 rfl
            have e113 : a_.tmps[113]? = some (.bool true) := hs 12 (by kernel_rfl) _ rfl 113 rfl
            refine ⟨_, rfl, fun KR hKR => ?_⟩
            rw [if_pos (wanted_of (j := 12) (d := 113) rfl rfl e113)]
            clear e113
            clear hs ho
            go_simp
            (go_at_call 29; refine (holdsD _ _ _ _).mono ?_; rintro e w1 ⟨rfl, hb⟩)
            exact hKR _ hb
          · obtain rfl : (.bool true) = v_ := Lf.v.inj (Option.some.inj (show some (Lf.v (.bool true)) = some (Lf.v v_) from hi))
            clear hi hl
            have e117 : a_.tmps[117]? = some (.bool (holdsF a x y)) := hs 16 (by kernel_rfl) _ rfl 117 rfl
            have e121 : a_.tmps[121]? = some (.bool (holdsF a x y)) := hs 20 (by kernel_rfl) _ rfl 121 rfl
            have e113 : a_.tmps[113]? = some (.bool true) := hs 12 (by kernel_rfl) _ rfl 113 rfl
            refine ⟨_, rfl, fun KR hKR => ?_⟩
            rw [if_pos (wanted_of (j := 12) (d := 113) rfl rfl e113)]
            clear e113
            clear hs ho
            go_simp
            exact hKR _ (Below.refl _ _)
          · obtain rfl : (.bool true) = v_ := Lf.v.inj (Option.some.inj (show some (Lf.v (.bool true)) = some (Lf.v v_) from hi))
            clear hi hl
            have e113 : a_.tmps[113]? = some (.bool true) := hs 12 (by kernel_rfl) _ rfl 113 rfl
            have e122 : a_.tmps[122]? = some (.bool true) := hs 21 (by kernel_rfl) _ rfl 122 rfl
            refine ⟨_, rfl, fun KR hKR => ?_⟩
            rw [if_pos (show Region.wanted _ _ = true from rfl)]
            clear hs ho
            go_simp
            exact hKR _ (Below.refl _ _)
          · obtain rfl : (.bool true) = v_ := Lf.v.inj (Option.some.inj (show some (Lf.v (.bool true)) = some (Lf.v v_) from hi))
            clear hi hl
            have e123 : a_.tmps[123]? = some (.bool true) := hs 22 (by kernel_rfl) _ rfl 123 rfl
            refine ⟨_, rfl, fun KR hKR => ?_⟩
            rw [if_pos (show Region.wanted _ _ = true from rfl)]
            clear hs ho
            go_simp
            exact hKR _ (Below.refl _ _)
          · obtain rfl : (.agg (RS a)) = v_ := Lf.v.inj (Option.some.inj (show some (Lf.v (.agg (RS a))) = some (Lf.v v_) from hi))
            clear hi hl
            have e11 : a_.tmps[11]? = some (.pointer (some ⟨w1.heap.size, 0, none⟩)) := (ho 11 (by kernel_rfl)).trans rfl
            have e124 : a_.tmps[124]? = some (.bool true) := hs 23 (by kernel_rfl) _ rfl 124 rfl
            refine ⟨_, rfl, fun KR hKR => ?_⟩
            rw [if_pos (wanted_of (j := 23) (d := 124) rfl rfl e124)]
            clear e124
            refine wp_load_row 24 (.tmp 11) rfl _ (by simp [Act.eval, e11]) 24 _ (0, 0) _ ((hB.block _ (heap_lt (hF (w1.heap.size, 24, a) (by simp)))).trans (hF (w1.heap.size, 24, a) (by simp))) Try.underlying24 rfl (info24 _) ?_
            exact hKR _ (Below.refl _ _)
          · obtain rfl : (.agg (RS b)) = v_ := Lf.v.inj (Option.some.inj (show some (Lf.v (.agg (RS b))) = some (Lf.v v_) from hi))
            clear hi hl
            have e12 : a_.tmps[12]? = some (.pointer (some ⟨w3.heap.size, 0, none⟩)) := (ho 12 (by kernel_rfl)).trans rfl
            have e124 : a_.tmps[124]? = some (.bool true) := hs 23 (by kernel_rfl) _ rfl 124 rfl
            refine ⟨_, rfl, fun KR hKR => ?_⟩
            rw [if_pos (wanted_of (j := 23) (d := 124) rfl rfl e124)]
            clear e124
            refine wp_load_row 24 (.tmp 12) rfl _ (by simp [Act.eval, e12]) 24 _ (0, 0) _ ((hB.block _ (heap_lt (hF (w3.heap.size, 24, b) (by simp)))).trans (hF (w3.heap.size, 24, b) (by simp))) Try.underlying24 rfl (info24 _) ?_
            exact hKR _ (Below.refl _ _)
          · obtain rfl : (.bool (withinF a b)) = v_ := Lf.v.inj (Option.some.inj (show some (Lf.v (.bool (withinF a b))) = some (Lf.v v_) from hi))
            clear hi hl
            have e125 : a_.tmps[125]? = some (.agg (RS a)) := hs 24 (by kernel_rfl) _ rfl 125 rfl
            have e126 : a_.tmps[126]? = some (.agg (RS b)) := hs 25 (by kernel_rfl) _ rfl 126 rfl
            have e124 : a_.tmps[124]? = some (.bool true) := hs 23 (by kernel_rfl) _ rfl 124 rfl
            refine ⟨_, rfl, fun KR hKR => ?_⟩
            rw [if_pos (wanted_of (j := 23) (d := 124) rfl rfl e124)]
            clear e124
            clear hs ho
            go_simp
            (go_at_call 11; refine (withinR _ _ _).mono ?_; rintro e w1 ⟨rfl, hb⟩)
            exact hKR _ hb
          · obtain rfl : (.agg (RS a)) = v_ := Lf.v.inj (Option.some.inj (show some (Lf.v (.agg (RS a))) = some (Lf.v v_) from hi))
            clear hi hl
            have e5 : a_.tmps[5]? = some (.pointer (some ⟨w.heap.size, 0, none⟩)) := (ho 5 (by kernel_rfl)).trans rfl
            have e124 : a_.tmps[124]? = some (.bool true) := hs 23 (by kernel_rfl) _ rfl 124 rfl
            refine ⟨_, rfl, fun KR hKR => ?_⟩
            rw [if_pos (wanted_of (j := 23) (d := 124) rfl rfl e124)]
            clear e124
            refine wp_load_row 23 (.tmp 5) rfl _ (by simp [Act.eval, e5]) 23 _ (0, 0) _ ((hB.block _ (heap_lt (hF (w.heap.size, 23, a) (by simp)))).trans (hF (w.heap.size, 23, a) (by simp))) Try.underlying23 rfl (info23 _) ?_
            exact hKR _ (Below.refl _ _)
          · obtain rfl : (.agg (RS b)) = v_ := Lf.v.inj (Option.some.inj (show some (Lf.v (.agg (RS b))) = some (Lf.v v_) from hi))
            clear hi hl
            have e6 : a_.tmps[6]? = some (.pointer (some ⟨w.heap.size + 1, 0, none⟩)) := (ho 6 (by kernel_rfl)).trans rfl
            have e124 : a_.tmps[124]? = some (.bool true) := hs 23 (by kernel_rfl) _ rfl 124 rfl
            refine ⟨_, rfl, fun KR hKR => ?_⟩
            rw [if_pos (wanted_of (j := 23) (d := 124) rfl rfl e124)]
            clear e124
            refine wp_load_row 23 (.tmp 6) rfl _ (by simp [Act.eval, e6]) 23 _ (0, 0) _ ((hB.block _ (heap_lt (hF (w.heap.size + 1, 23, b) (by simp)))).trans (hF (w.heap.size + 1, 23, b) (by simp))) Try.underlying23 rfl (info23 _) ?_
            exact hKR _ (Below.refl _ _)
          · obtain rfl : (.bool (withinF a b)) = v_ := Lf.v.inj (Option.some.inj (show some (Lf.v (.bool (withinF a b))) = some (Lf.v v_) from hi))
            clear hi hl
            have e128 : a_.tmps[128]? = some (.agg (RS a)) := hs 27 (by kernel_rfl) _ rfl 128 rfl
            have e129 : a_.tmps[129]? = some (.agg (RS b)) := hs 28 (by kernel_rfl) _ rfl 129 rfl
            have e124 : a_.tmps[124]? = some (.bool true) := hs 23 (by kernel_rfl) _ rfl 124 rfl
            refine ⟨_, rfl, fun KR hKR => ?_⟩
            rw [if_pos (wanted_of (j := 23) (d := 124) rfl rfl e124)]
            clear e124
            clear hs ho
            go_simp
            (go_at_call 30; refine (withinD _ _ _).mono ?_; rintro e w1 ⟨rfl, hb⟩)
            exact hKR _ hb
          · obtain rfl : (.bool true) = v_ := Lf.v.inj (Option.some.inj (show some (Lf.v (.bool true)) = some (Lf.v v_) from hi))
            clear hi hl
            have e127 : a_.tmps[127]? = some (.bool (withinF a b)) := hs 26 (by kernel_rfl) _ rfl 127 rfl
            have e130 : a_.tmps[130]? = some (.bool (withinF a b)) := hs 29 (by kernel_rfl) _ rfl 130 rfl
            have e124 : a_.tmps[124]? = some (.bool true) := hs 23 (by kernel_rfl) _ rfl 124 rfl
            refine ⟨_, rfl, fun KR hKR => ?_⟩
            rw [if_pos (wanted_of (j := 23) (d := 124) rfl rfl e124)]
            clear e124
            clear hs ho
            go_simp
            exact hKR _ (Below.refl _ _)
          · obtain rfl : (.bool true) = v_ := Lf.v.inj (Option.some.inj (show some (Lf.v (.bool true)) = some (Lf.v v_) from hi))
            clear hi hl
            have e124 : a_.tmps[124]? = some (.bool true) := hs 23 (by kernel_rfl) _ rfl 124 rfl
            have e131 : a_.tmps[131]? = some (.bool true) := hs 30 (by kernel_rfl) _ rfl 131 rfl
            refine ⟨_, rfl, fun KR hKR => ?_⟩
            rw [if_pos (show Region.wanted _ _ = true from rfl)]
            clear hs ho
            go_simp
            exact hKR _ (Below.refl _ _)
          · obtain rfl : (.bool true) = v_ := Lf.v.inj (Option.some.inj (show some (Lf.v (.bool true)) = some (Lf.v v_) from hi))
            clear hi hl
            have e132 : a_.tmps[132]? = some (.bool true) := hs 31 (by kernel_rfl) _ rfl 132 rfl
            refine ⟨_, rfl, fun KR hKR => ?_⟩
            rw [if_pos (show Region.wanted _ _ = true from rfl)]
            clear hs ho
            go_simp
            exact hKR _ (Below.refl _ _)
          · obtain rfl : (.agg (RS a)) = v_ := Lf.v.inj (Option.some.inj (show some (Lf.v (.agg (RS a))) = some (Lf.v v_) from hi))
            clear hi hl
            have e11 : a_.tmps[11]? = some (.pointer (some ⟨w1.heap.size, 0, none⟩)) := (ho 11 (by kernel_rfl)).trans rfl
            have e133 : a_.tmps[133]? = some (.bool true) := hs 32 (by kernel_rfl) _ rfl 133 rfl
            refine ⟨_, rfl, fun KR hKR => ?_⟩
            rw [if_pos (wanted_of (j := 32) (d := 133) rfl rfl e133)]
            clear e133
            refine wp_load_row 24 (.tmp 11) rfl _ (by simp [Act.eval, e11]) 24 _ (0, 0) _ ((hB.block _ (heap_lt (hF (w1.heap.size, 24, a) (by simp)))).trans (hF (w1.heap.size, 24, a) (by simp))) Try.underlying24 rfl (info24 _) ?_
            exact hKR _ (Below.refl _ _)
          · obtain rfl : (.agg (RS b)) = v_ := Lf.v.inj (Option.some.inj (show some (Lf.v (.agg (RS b))) = some (Lf.v v_) from hi))
            clear hi hl
            have e12 : a_.tmps[12]? = some (.pointer (some ⟨w3.heap.size, 0, none⟩)) := (ho 12 (by kernel_rfl)).trans rfl
            have e133 : a_.tmps[133]? = some (.bool true) := hs 32 (by kernel_rfl) _ rfl 133 rfl
            refine ⟨_, rfl, fun KR hKR => ?_⟩
            rw [if_pos (wanted_of (j := 32) (d := 133) rfl rfl e133)]
            clear e133
            refine wp_load_row 24 (.tmp 12) rfl _ (by simp [Act.eval, e12]) 24 _ (0, 0) _ ((hB.block _ (heap_lt (hF (w3.heap.size, 24, b) (by simp)))).trans (hF (w3.heap.size, 24, b) (by simp))) Try.underlying24 rfl (info24 _) ?_
            exact hKR _ (Below.refl _ _)
          · obtain rfl : (.agg (RS (meetF a b))) = v_ := Lf.v.inj (Option.some.inj (show some (Lf.v (.agg (RS (meetF a b)))) = some (Lf.v v_) from hi))
            clear hi hl
            have e134 : a_.tmps[134]? = some (.agg (RS a)) := hs 33 (by kernel_rfl) _ rfl 134 rfl
            have e135 : a_.tmps[135]? = some (.agg (RS b)) := hs 34 (by kernel_rfl) _ rfl 135 rfl
            have e133 : a_.tmps[133]? = some (.bool true) := hs 32 (by kernel_rfl) _ rfl 133 rfl
            refine ⟨_, rfl, fun KR hKR => ?_⟩
            rw [if_pos (wanted_of (j := 32) (d := 133) rfl rfl e133)]
            clear e133
            clear hs ho
            go_simp
            (go_at_call 10; refine (meetR _ _ _).mono ?_; rintro e w1 ⟨rfl, hb⟩)
            exact hKR _ hb
          · obtain rfl : (.agg (RS (meetF a b))) = v_ := Lf.v.inj (Option.some.inj (show some (Lf.v (.agg (RS (meetF a b)))) = some (Lf.v v_) from hi))
            clear hi hl
            have e136 : a_.tmps[136]? = some (.agg (RS (meetF a b))) := hs 35 (by kernel_rfl) _ rfl 136 rfl
            have e133 : a_.tmps[133]? = some (.bool true) := hs 32 (by kernel_rfl) _ rfl 133 rfl
            refine ⟨_, rfl, fun KR hKR => ?_⟩
            rw [if_pos (wanted_of (j := 32) (d := 133) rfl rfl e133)]
            clear e133
            clear hs ho
            go_simp
            (go_at_call 24; refine (refR _ _).mono ?_; rintro e w1 ⟨rfl, hb⟩)
            exact hKR _ hb
          · obtain rfl : (.agg (RS a)) = v_ := Lf.v.inj (Option.some.inj (show some (Lf.v (.agg (RS a))) = some (Lf.v v_) from hi))
            clear hi hl
            have e5 : a_.tmps[5]? = some (.pointer (some ⟨w.heap.size, 0, none⟩)) := (ho 5 (by kernel_rfl)).trans rfl
            have e133 : a_.tmps[133]? = some (.bool true) := hs 32 (by kernel_rfl) _ rfl 133 rfl
            refine ⟨_, rfl, fun KR hKR => ?_⟩
            rw [if_pos (wanted_of (j := 32) (d := 133) rfl rfl e133)]
            clear e133
            refine wp_load_row 23 (.tmp 5) rfl _ (by simp [Act.eval, e5]) 23 _ (0, 0) _ ((hB.block _ (heap_lt (hF (w.heap.size, 23, a) (by simp)))).trans (hF (w.heap.size, 23, a) (by simp))) Try.underlying23 rfl (info23 _) ?_
            exact hKR _ (Below.refl _ _)
          · obtain rfl : (.agg (RS b)) = v_ := Lf.v.inj (Option.some.inj (show some (Lf.v (.agg (RS b))) = some (Lf.v v_) from hi))
            clear hi hl
            have e6 : a_.tmps[6]? = some (.pointer (some ⟨w.heap.size + 1, 0, none⟩)) := (ho 6 (by kernel_rfl)).trans rfl
            have e133 : a_.tmps[133]? = some (.bool true) := hs 32 (by kernel_rfl) _ rfl 133 rfl
            refine ⟨_, rfl, fun KR hKR => ?_⟩
            rw [if_pos (wanted_of (j := 32) (d := 133) rfl rfl e133)]
            clear e133
            refine wp_load_row 23 (.tmp 6) rfl _ (by simp [Act.eval, e6]) 23 _ (0, 0) _ ((hB.block _ (heap_lt (hF (w.heap.size + 1, 23, b) (by simp)))).trans (hF (w.heap.size + 1, 23, b) (by simp))) Try.underlying23 rfl (info23 _) ?_
            exact hKR _ (Below.refl _ _)
          · obtain rfl : (.agg (RS (meetF a b))) = v_ := Lf.v.inj (Option.some.inj (show some (Lf.v (.agg (RS (meetF a b)))) = some (Lf.v v_) from hi))
            clear hi hl
            have e138 : a_.tmps[138]? = some (.agg (RS a)) := hs 37 (by kernel_rfl) _ rfl 138 rfl
            have e139 : a_.tmps[139]? = some (.agg (RS b)) := hs 38 (by kernel_rfl) _ rfl 139 rfl
            have e133 : a_.tmps[133]? = some (.bool true) := hs 32 (by kernel_rfl) _ rfl 133 rfl
            refine ⟨_, rfl, fun KR hKR => ?_⟩
            rw [if_pos (wanted_of (j := 32) (d := 133) rfl rfl e133)]
            clear e133
            clear hs ho
            go_simp
            (go_at_call 31; refine (meetD _ _ _).mono ?_; rintro e w1 ⟨rfl, hb⟩)
            exact hKR _ hb
          · obtain rfl : (.bool true) = v_ := Lf.v.inj (Option.some.inj (show some (Lf.v (.bool true)) = some (Lf.v v_) from hi))
            clear hi hl
            have e137 : a_.tmps[137]? = some (.agg (RS (meetF a b))) := hs 36 (by kernel_rfl) _ rfl 137 rfl
            have e140 : a_.tmps[140]? = some (.agg (RS (meetF a b))) := hs 39 (by kernel_rfl) _ rfl 140 rfl
            have e133 : a_.tmps[133]? = some (.bool true) := hs 32 (by kernel_rfl) _ rfl 133 rfl
            refine ⟨_, rfl, fun KR hKR => ?_⟩
            rw [if_pos (wanted_of (j := 32) (d := 133) rfl rfl e133)]
            clear e133
            clear hs ho
            go_simp
            exact hKR _ (Below.refl _ _)
          · obtain rfl : (.bool true) = v_ := Lf.v.inj (Option.some.inj (show some (Lf.v (.bool true)) = some (Lf.v v_) from hi))
            clear hi hl
            have e133 : a_.tmps[133]? = some (.bool true) := hs 32 (by kernel_rfl) _ rfl 133 rfl
            have e141 : a_.tmps[141]? = some (.bool true) := hs 40 (by kernel_rfl) _ rfl 141 rfl
            refine ⟨_, rfl, fun KR hKR => ?_⟩
            rw [if_pos (show Region.wanted _ _ = true from rfl)]
            clear hs ho
            go_simp
            exact hKR _ (Below.refl _ _)
          · obtain rfl : (.bool true) = v_ := Lf.v.inj (Option.some.inj (show some (Lf.v (.bool true)) = some (Lf.v v_) from hi))
            clear hi hl
            have e142 : a_.tmps[142]? = some (.bool true) := hs 41 (by kernel_rfl) _ rfl 142 rfl
            refine ⟨_, rfl, fun KR hKR => ?_⟩
            rw [if_pos (show Region.wanted _ _ = true from rfl)]
            clear hs ho
            go_simp
            exact hKR _ (Below.refl _ _)
          · obtain rfl : (.bool true) = v_ := Lf.v.inj (Option.some.inj (show some (Lf.v (.bool true)) = some (Lf.v v_) from hi))
            clear hi hl
            have e143 : a_.tmps[143]? = some (.bool true) := hs 42 (by kernel_rfl) _ rfl 143 rfl
            refine ⟨_, rfl, fun KR hKR => ?_⟩
            rw [if_pos (wanted_of (j := 42) (d := 143) rfl rfl e143)]
            clear e143
            clear hs ho
            go_simp
            (go_at_call 9; refine (knows_any _).mono ?_; rintro e w1 ⟨rfl, hb⟩)
            exact hKR _ hb
          · obtain rfl : (.bool true) = v_ := Lf.v.inj (Option.some.inj (show some (Lf.v (.bool true)) = some (Lf.v v_) from hi))
            clear hi hl
            have e143 : a_.tmps[143]? = some (.bool true) := hs 42 (by kernel_rfl) _ rfl 143 rfl
            have e144 : a_.tmps[144]? = some (.bool true) := hs 43 (by kernel_rfl) _ rfl 144 rfl
            refine ⟨_, rfl, fun KR hKR => ?_⟩
            rw [if_pos (show Region.wanted _ _ = true from rfl)]
            clear hs ho
            go_simp
            exact hKR _ (Below.refl _ _)
          · obtain rfl : (.bool true) = v_ := Lf.v.inj (Option.some.inj (show some (Lf.v (.bool true)) = some (Lf.v v_) from hi))
            clear hi hl
            have e145 : a_.tmps[145]? = some (.bool true) := hs 44 (by kernel_rfl) _ rfl 145 rfl
            refine ⟨_, rfl, fun KR hKR => ?_⟩
            rw [if_pos (show Region.wanted _ _ = true from rfl)]
            clear hs ho
            go_simp
            exact hKR _ (Below.refl _ _)
        · intro i_ T_ Z_ S_ k_ hi a_ W
          have hl := (List.getElem?_eq_some_iff.1 hi).1
          rcases (show i_ = 0 ∨ i_ = 1 ∨ i_ = 2 ∨ i_ = 3 ∨ i_ = 4 ∨ i_ = 5 ∨ i_ = 6 ∨ i_ = 7 ∨ i_ = 8 ∨ i_ = 9 ∨ i_ = 10 ∨ i_ = 11 ∨ i_ = 12 ∨ i_ = 13 ∨ i_ = 14 ∨ i_ = 15 ∨ i_ = 16 ∨ i_ = 17 ∨ i_ = 18 ∨ i_ = 19 ∨ i_ = 20 ∨ i_ = 21 ∨ i_ = 22 ∨ i_ = 23 ∨ i_ = 24 ∨ i_ = 25 ∨ i_ = 26 ∨ i_ = 27 ∨ i_ = 28 ∨ i_ = 29 ∨ i_ = 30 ∨ i_ = 31 ∨ i_ = 32 ∨ i_ = 33 ∨ i_ = 34 ∨ i_ = 35 ∨ i_ = 36 ∨ i_ = 37 ∨ i_ = 38 ∨ i_ = 39 ∨ i_ = 40 ∨ i_ = 41 ∨ i_ = 42 ∨ i_ = 43 ∨ i_ = 44 ∨ i_ = 45 by simp at hl; omega) with rfl | rfl | rfl | rfl | rfl | rfl | rfl | rfl | rfl | rfl | rfl | rfl | rfl | rfl | rfl | rfl | rfl | rfl | rfl | rfl | rfl | rfl | rfl | rfl | rfl | rfl | rfl | rfl | rfl | rfl | rfl | rfl | rfl | rfl | rfl | rfl | rfl | rfl | rfl | rfl | rfl | rfl | rfl | rfl | rfl | rfl
          · exact Lf.noConfusion (Option.some.inj (show some (Lf.v (.agg (RS a))) = some (Lf.nw T_ Z_ S_ k_) from hi))
          · exact Lf.noConfusion (Option.some.inj (show some (Lf.v (.bool a.right)) = some (Lf.nw T_ Z_ S_ k_) from hi))
          · exact Lf.noConfusion (Option.some.inj (show some (Lf.v (.agg (RS a))) = some (Lf.nw T_ Z_ S_ k_) from hi))
          · exact Lf.noConfusion (Option.some.inj (show some (Lf.v (.bool a.right)) = some (Lf.nw T_ Z_ S_ k_) from hi))
          · exact Lf.noConfusion (Option.some.inj (show some (Lf.v (.bool true)) = some (Lf.nw T_ Z_ S_ k_) from hi))
          · exact Lf.noConfusion (Option.some.inj (show some (Lf.v (.bool true)) = some (Lf.nw T_ Z_ S_ k_) from hi))
          · exact Lf.noConfusion (Option.some.inj (show some (Lf.v (.agg (RS a))) = some (Lf.nw T_ Z_ S_ k_) from hi))
          · exact Lf.noConfusion (Option.some.inj (show some (Lf.v (.bool a.empty)) = some (Lf.nw T_ Z_ S_ k_) from hi))
          · exact Lf.noConfusion (Option.some.inj (show some (Lf.v (.agg (RS a))) = some (Lf.nw T_ Z_ S_ k_) from hi))
          · exact Lf.noConfusion (Option.some.inj (show some (Lf.v (.bool a.empty)) = some (Lf.nw T_ Z_ S_ k_) from hi))
          · exact Lf.noConfusion (Option.some.inj (show some (Lf.v (.bool true)) = some (Lf.nw T_ Z_ S_ k_) from hi))
          · exact Lf.noConfusion (Option.some.inj (show some (Lf.v (.bool true)) = some (Lf.nw T_ Z_ S_ k_) from hi))
          · exact Lf.noConfusion (Option.some.inj (show some (Lf.v (.bool true)) = some (Lf.nw T_ Z_ S_ k_) from hi))
          · exact Lf.noConfusion (Option.some.inj (show some (Lf.v (.agg (RS a))) = some (Lf.nw T_ Z_ S_ k_) from hi))
          · exact Lf.noConfusion (Option.some.inj (show some (Lf.v (.int .i64 x)) = some (Lf.nw T_ Z_ S_ k_) from hi))
          · exact Lf.noConfusion (Option.some.inj (show some (Lf.v (.int .i64 y)) = some (Lf.nw T_ Z_ S_ k_) from hi))
          · exact Lf.noConfusion (Option.some.inj (show some (Lf.v (.bool (holdsF a x y))) = some (Lf.nw T_ Z_ S_ k_) from hi))
          · exact Lf.noConfusion (Option.some.inj (show some (Lf.v (.agg (RS a))) = some (Lf.nw T_ Z_ S_ k_) from hi))
          · exact Lf.noConfusion (Option.some.inj (show some (Lf.v (.int .i64 x)) = some (Lf.nw T_ Z_ S_ k_) from hi))
          · exact Lf.noConfusion (Option.some.inj (show some (Lf.v (.int .i64 y)) = some (Lf.nw T_ Z_ S_ k_) from hi))
          · exact Lf.noConfusion (Option.some.inj (show some (Lf.v (.bool (holdsF a x y))) = some (Lf.nw T_ Z_ S_ k_) from hi))
          · exact Lf.noConfusion (Option.some.inj (show some (Lf.v (.bool true)) = some (Lf.nw T_ Z_ S_ k_) from hi))
          · exact Lf.noConfusion (Option.some.inj (show some (Lf.v (.bool true)) = some (Lf.nw T_ Z_ S_ k_) from hi))
          · exact Lf.noConfusion (Option.some.inj (show some (Lf.v (.bool true)) = some (Lf.nw T_ Z_ S_ k_) from hi))
          · exact Lf.noConfusion (Option.some.inj (show some (Lf.v (.agg (RS a))) = some (Lf.nw T_ Z_ S_ k_) from hi))
          · exact Lf.noConfusion (Option.some.inj (show some (Lf.v (.agg (RS b))) = some (Lf.nw T_ Z_ S_ k_) from hi))
          · exact Lf.noConfusion (Option.some.inj (show some (Lf.v (.bool (withinF a b))) = some (Lf.nw T_ Z_ S_ k_) from hi))
          · exact Lf.noConfusion (Option.some.inj (show some (Lf.v (.agg (RS a))) = some (Lf.nw T_ Z_ S_ k_) from hi))
          · exact Lf.noConfusion (Option.some.inj (show some (Lf.v (.agg (RS b))) = some (Lf.nw T_ Z_ S_ k_) from hi))
          · exact Lf.noConfusion (Option.some.inj (show some (Lf.v (.bool (withinF a b))) = some (Lf.nw T_ Z_ S_ k_) from hi))
          · exact Lf.noConfusion (Option.some.inj (show some (Lf.v (.bool true)) = some (Lf.nw T_ Z_ S_ k_) from hi))
          · exact Lf.noConfusion (Option.some.inj (show some (Lf.v (.bool true)) = some (Lf.nw T_ Z_ S_ k_) from hi))
          · exact Lf.noConfusion (Option.some.inj (show some (Lf.v (.bool true)) = some (Lf.nw T_ Z_ S_ k_) from hi))
          · exact Lf.noConfusion (Option.some.inj (show some (Lf.v (.agg (RS a))) = some (Lf.nw T_ Z_ S_ k_) from hi))
          · exact Lf.noConfusion (Option.some.inj (show some (Lf.v (.agg (RS b))) = some (Lf.nw T_ Z_ S_ k_) from hi))
          · exact Lf.noConfusion (Option.some.inj (show some (Lf.v (.agg (RS (meetF a b)))) = some (Lf.nw T_ Z_ S_ k_) from hi))
          · exact Lf.noConfusion (Option.some.inj (show some (Lf.v (.agg (RS (meetF a b)))) = some (Lf.nw T_ Z_ S_ k_) from hi))
          · exact Lf.noConfusion (Option.some.inj (show some (Lf.v (.agg (RS a))) = some (Lf.nw T_ Z_ S_ k_) from hi))
          · exact Lf.noConfusion (Option.some.inj (show some (Lf.v (.agg (RS b))) = some (Lf.nw T_ Z_ S_ k_) from hi))
          · exact Lf.noConfusion (Option.some.inj (show some (Lf.v (.agg (RS (meetF a b)))) = some (Lf.nw T_ Z_ S_ k_) from hi))
          · exact Lf.noConfusion (Option.some.inj (show some (Lf.v (.bool true)) = some (Lf.nw T_ Z_ S_ k_) from hi))
          · exact Lf.noConfusion (Option.some.inj (show some (Lf.v (.bool true)) = some (Lf.nw T_ Z_ S_ k_) from hi))
          · exact Lf.noConfusion (Option.some.inj (show some (Lf.v (.bool true)) = some (Lf.nw T_ Z_ S_ k_) from hi))
          · exact Lf.noConfusion (Option.some.inj (show some (Lf.v (.bool true)) = some (Lf.nw T_ Z_ S_ k_) from hi))
          · exact Lf.noConfusion (Option.some.inj (show some (Lf.v (.bool true)) = some (Lf.nw T_ Z_ S_ k_) from hi))
          · exact Lf.noConfusion (Option.some.inj (show some (Lf.v (.bool true)) = some (Lf.nw T_ Z_ S_ k_) from hi))
        · intro i_ m_ T_ Z_ S_ hi hm_ a_ W g_ hp_ hg hs
          have hl := (List.getElem?_eq_some_iff.1 hi).1
          rcases (show i_ = 0 ∨ i_ = 1 ∨ i_ = 2 ∨ i_ = 3 ∨ i_ = 4 ∨ i_ = 5 ∨ i_ = 6 ∨ i_ = 7 ∨ i_ = 8 ∨ i_ = 9 ∨ i_ = 10 ∨ i_ = 11 ∨ i_ = 12 ∨ i_ = 13 ∨ i_ = 14 ∨ i_ = 15 ∨ i_ = 16 ∨ i_ = 17 ∨ i_ = 18 ∨ i_ = 19 ∨ i_ = 20 ∨ i_ = 21 ∨ i_ = 22 ∨ i_ = 23 ∨ i_ = 24 ∨ i_ = 25 ∨ i_ = 26 ∨ i_ = 27 ∨ i_ = 28 ∨ i_ = 29 ∨ i_ = 30 ∨ i_ = 31 ∨ i_ = 32 ∨ i_ = 33 ∨ i_ = 34 ∨ i_ = 35 ∨ i_ = 36 ∨ i_ = 37 ∨ i_ = 38 ∨ i_ = 39 ∨ i_ = 40 ∨ i_ = 41 ∨ i_ = 42 ∨ i_ = 43 ∨ i_ = 44 ∨ i_ = 45 by simp at hl; omega) with rfl | rfl | rfl | rfl | rfl | rfl | rfl | rfl | rfl | rfl | rfl | rfl | rfl | rfl | rfl | rfl | rfl | rfl | rfl | rfl | rfl | rfl | rfl | rfl | rfl | rfl | rfl | rfl | rfl | rfl | rfl | rfl | rfl | rfl | rfl | rfl | rfl | rfl | rfl | rfl | rfl | rfl | rfl | rfl | rfl | rfl
          · exact Lf.noConfusion (Option.some.inj (show some (Lf.v (.agg (RS a))) = some (Lf.st m_) from hi))
          · exact Lf.noConfusion (Option.some.inj (show some (Lf.v (.bool a.right)) = some (Lf.st m_) from hi))
          · exact Lf.noConfusion (Option.some.inj (show some (Lf.v (.agg (RS a))) = some (Lf.st m_) from hi))
          · exact Lf.noConfusion (Option.some.inj (show some (Lf.v (.bool a.right)) = some (Lf.st m_) from hi))
          · exact Lf.noConfusion (Option.some.inj (show some (Lf.v (.bool true)) = some (Lf.st m_) from hi))
          · exact Lf.noConfusion (Option.some.inj (show some (Lf.v (.bool true)) = some (Lf.st m_) from hi))
          · exact Lf.noConfusion (Option.some.inj (show some (Lf.v (.agg (RS a))) = some (Lf.st m_) from hi))
          · exact Lf.noConfusion (Option.some.inj (show some (Lf.v (.bool a.empty)) = some (Lf.st m_) from hi))
          · exact Lf.noConfusion (Option.some.inj (show some (Lf.v (.agg (RS a))) = some (Lf.st m_) from hi))
          · exact Lf.noConfusion (Option.some.inj (show some (Lf.v (.bool a.empty)) = some (Lf.st m_) from hi))
          · exact Lf.noConfusion (Option.some.inj (show some (Lf.v (.bool true)) = some (Lf.st m_) from hi))
          · exact Lf.noConfusion (Option.some.inj (show some (Lf.v (.bool true)) = some (Lf.st m_) from hi))
          · exact Lf.noConfusion (Option.some.inj (show some (Lf.v (.bool true)) = some (Lf.st m_) from hi))
          · exact Lf.noConfusion (Option.some.inj (show some (Lf.v (.agg (RS a))) = some (Lf.st m_) from hi))
          · exact Lf.noConfusion (Option.some.inj (show some (Lf.v (.int .i64 x)) = some (Lf.st m_) from hi))
          · exact Lf.noConfusion (Option.some.inj (show some (Lf.v (.int .i64 y)) = some (Lf.st m_) from hi))
          · exact Lf.noConfusion (Option.some.inj (show some (Lf.v (.bool (holdsF a x y))) = some (Lf.st m_) from hi))
          · exact Lf.noConfusion (Option.some.inj (show some (Lf.v (.agg (RS a))) = some (Lf.st m_) from hi))
          · exact Lf.noConfusion (Option.some.inj (show some (Lf.v (.int .i64 x)) = some (Lf.st m_) from hi))
          · exact Lf.noConfusion (Option.some.inj (show some (Lf.v (.int .i64 y)) = some (Lf.st m_) from hi))
          · exact Lf.noConfusion (Option.some.inj (show some (Lf.v (.bool (holdsF a x y))) = some (Lf.st m_) from hi))
          · exact Lf.noConfusion (Option.some.inj (show some (Lf.v (.bool true)) = some (Lf.st m_) from hi))
          · exact Lf.noConfusion (Option.some.inj (show some (Lf.v (.bool true)) = some (Lf.st m_) from hi))
          · exact Lf.noConfusion (Option.some.inj (show some (Lf.v (.bool true)) = some (Lf.st m_) from hi))
          · exact Lf.noConfusion (Option.some.inj (show some (Lf.v (.agg (RS a))) = some (Lf.st m_) from hi))
          · exact Lf.noConfusion (Option.some.inj (show some (Lf.v (.agg (RS b))) = some (Lf.st m_) from hi))
          · exact Lf.noConfusion (Option.some.inj (show some (Lf.v (.bool (withinF a b))) = some (Lf.st m_) from hi))
          · exact Lf.noConfusion (Option.some.inj (show some (Lf.v (.agg (RS a))) = some (Lf.st m_) from hi))
          · exact Lf.noConfusion (Option.some.inj (show some (Lf.v (.agg (RS b))) = some (Lf.st m_) from hi))
          · exact Lf.noConfusion (Option.some.inj (show some (Lf.v (.bool (withinF a b))) = some (Lf.st m_) from hi))
          · exact Lf.noConfusion (Option.some.inj (show some (Lf.v (.bool true)) = some (Lf.st m_) from hi))
          · exact Lf.noConfusion (Option.some.inj (show some (Lf.v (.bool true)) = some (Lf.st m_) from hi))
          · exact Lf.noConfusion (Option.some.inj (show some (Lf.v (.bool true)) = some (Lf.st m_) from hi))
          · exact Lf.noConfusion (Option.some.inj (show some (Lf.v (.agg (RS a))) = some (Lf.st m_) from hi))
          · exact Lf.noConfusion (Option.some.inj (show some (Lf.v (.agg (RS b))) = some (Lf.st m_) from hi))
          · exact Lf.noConfusion (Option.some.inj (show some (Lf.v (.agg (RS (meetF a b)))) = some (Lf.st m_) from hi))
          · exact Lf.noConfusion (Option.some.inj (show some (Lf.v (.agg (RS (meetF a b)))) = some (Lf.st m_) from hi))
          · exact Lf.noConfusion (Option.some.inj (show some (Lf.v (.agg (RS a))) = some (Lf.st m_) from hi))
          · exact Lf.noConfusion (Option.some.inj (show some (Lf.v (.agg (RS b))) = some (Lf.st m_) from hi))
          · exact Lf.noConfusion (Option.some.inj (show some (Lf.v (.agg (RS (meetF a b)))) = some (Lf.st m_) from hi))
          · exact Lf.noConfusion (Option.some.inj (show some (Lf.v (.bool true)) = some (Lf.st m_) from hi))
          · exact Lf.noConfusion (Option.some.inj (show some (Lf.v (.bool true)) = some (Lf.st m_) from hi))
          · exact Lf.noConfusion (Option.some.inj (show some (Lf.v (.bool true)) = some (Lf.st m_) from hi))
          · exact Lf.noConfusion (Option.some.inj (show some (Lf.v (.bool true)) = some (Lf.st m_) from hi))
          · exact Lf.noConfusion (Option.some.inj (show some (Lf.v (.bool true)) = some (Lf.st m_) from hi))
          · exact Lf.noConfusion (Option.some.inj (show some (Lf.v (.bool true)) = some (Lf.st m_) from hi))
        · intro b_ vals_ W hall hI
          have hB := hI.bel
          have v0 : vals_ 0 = .agg (RS a) := hI.has 0 (Nat.le_of_ble_eq_true rfl) (hall 0 (Nat.le_of_ble_eq_true rfl))
          have v1 : vals_ 1 = .bool a.right := hI.has 1 (Nat.le_of_ble_eq_true rfl) (hall 1 (Nat.le_of_ble_eq_true rfl))
          have v2 : vals_ 2 = .agg (RS a) := hI.has 2 (Nat.le_of_ble_eq_true rfl) (hall 2 (Nat.le_of_ble_eq_true rfl))
          have v3 : vals_ 3 = .bool a.right := hI.has 3 (Nat.le_of_ble_eq_true rfl) (hall 3 (Nat.le_of_ble_eq_true rfl))
          have v4 : vals_ 4 = .bool true := hI.has 4 (Nat.le_of_ble_eq_true rfl) (hall 4 (Nat.le_of_ble_eq_true rfl))
          have v5 : vals_ 5 = .bool true := hI.has 5 (Nat.le_of_ble_eq_true rfl) (hall 5 (Nat.le_of_ble_eq_true rfl))
          have v6 : vals_ 6 = .agg (RS a) := hI.has 6 (Nat.le_of_ble_eq_true rfl) (hall 6 (Nat.le_of_ble_eq_true rfl))
          have v7 : vals_ 7 = .bool a.empty := hI.has 7 (Nat.le_of_ble_eq_true rfl) (hall 7 (Nat.le_of_ble_eq_true rfl))
          have v8 : vals_ 8 = .agg (RS a) := hI.has 8 (Nat.le_of_ble_eq_true rfl) (hall 8 (Nat.le_of_ble_eq_true rfl))
          have v9 : vals_ 9 = .bool a.empty := hI.has 9 (Nat.le_of_ble_eq_true rfl) (hall 9 (Nat.le_of_ble_eq_true rfl))
          have v10 : vals_ 10 = .bool true := hI.has 10 (Nat.le_of_ble_eq_true rfl) (hall 10 (Nat.le_of_ble_eq_true rfl))
          have v11 : vals_ 11 = .bool true := hI.has 11 (Nat.le_of_ble_eq_true rfl) (hall 11 (Nat.le_of_ble_eq_true rfl))
          have v12 : vals_ 12 = .bool true := hI.has 12 (Nat.le_of_ble_eq_true rfl) (hall 12 (Nat.le_of_ble_eq_true rfl))
          have v13 : vals_ 13 = .agg (RS a) := hI.has 13 (Nat.le_of_ble_eq_true rfl) (hall 13 (Nat.le_of_ble_eq_true rfl))
          have v14 : vals_ 14 = .int .i64 x := hI.has 14 (Nat.le_of_ble_eq_true rfl) (hall 14 (Nat.le_of_ble_eq_true rfl))
          have v15 : vals_ 15 = .int .i64 y := hI.has 15 (Nat.le_of_ble_eq_true rfl) (hall 15 (Nat.le_of_ble_eq_true rfl))
          have v16 : vals_ 16 = .bool (holdsF a x y) := hI.has 16 (Nat.le_of_ble_eq_true rfl) (hall 16 (Nat.le_of_ble_eq_true rfl))
          have v17 : vals_ 17 = .agg (RS a) := hI.has 17 (Nat.le_of_ble_eq_true rfl) (hall 17 (Nat.le_of_ble_eq_true rfl))
          have v18 : vals_ 18 = .int .i64 x := hI.has 18 (Nat.le_of_ble_eq_true rfl) (hall 18 (Nat.le_of_ble_eq_true rfl))
          have v19 : vals_ 19 = .int .i64 y := hI.has 19 (Nat.le_of_ble_eq_true rfl) (hall 19 (Nat.le_of_ble_eq_true rfl))
          have v20 : vals_ 20 = .bool (holdsF a x y) := hI.has 20 (Nat.le_of_ble_eq_true rfl) (hall 20 (Nat.le_of_ble_eq_true rfl))
          have v21 : vals_ 21 = .bool true := hI.has 21 (Nat.le_of_ble_eq_true rfl) (hall 21 (Nat.le_of_ble_eq_true rfl))
          have v22 : vals_ 22 = .bool true := hI.has 22 (Nat.le_of_ble_eq_true rfl) (hall 22 (Nat.le_of_ble_eq_true rfl))
          have v23 : vals_ 23 = .bool true := hI.has 23 (Nat.le_of_ble_eq_true rfl) (hall 23 (Nat.le_of_ble_eq_true rfl))
          have v24 : vals_ 24 = .agg (RS a) := hI.has 24 (Nat.le_of_ble_eq_true rfl) (hall 24 (Nat.le_of_ble_eq_true rfl))
          have v25 : vals_ 25 = .agg (RS b) := hI.has 25 (Nat.le_of_ble_eq_true rfl) (hall 25 (Nat.le_of_ble_eq_true rfl))
          have v26 : vals_ 26 = .bool (withinF a b) := hI.has 26 (Nat.le_of_ble_eq_true rfl) (hall 26 (Nat.le_of_ble_eq_true rfl))
          have v27 : vals_ 27 = .agg (RS a) := hI.has 27 (Nat.le_of_ble_eq_true rfl) (hall 27 (Nat.le_of_ble_eq_true rfl))
          have v28 : vals_ 28 = .agg (RS b) := hI.has 28 (Nat.le_of_ble_eq_true rfl) (hall 28 (Nat.le_of_ble_eq_true rfl))
          have v29 : vals_ 29 = .bool (withinF a b) := hI.has 29 (Nat.le_of_ble_eq_true rfl) (hall 29 (Nat.le_of_ble_eq_true rfl))
          have v30 : vals_ 30 = .bool true := hI.has 30 (Nat.le_of_ble_eq_true rfl) (hall 30 (Nat.le_of_ble_eq_true rfl))
          have v31 : vals_ 31 = .bool true := hI.has 31 (Nat.le_of_ble_eq_true rfl) (hall 31 (Nat.le_of_ble_eq_true rfl))
          have v32 : vals_ 32 = .bool true := hI.has 32 (Nat.le_of_ble_eq_true rfl) (hall 32 (Nat.le_of_ble_eq_true rfl))
          have v33 : vals_ 33 = .agg (RS a) := hI.has 33 (Nat.le_of_ble_eq_true rfl) (hall 33 (Nat.le_of_ble_eq_true rfl))
          have v34 : vals_ 34 = .agg (RS b) := hI.has 34 (Nat.le_of_ble_eq_true rfl) (hall 34 (Nat.le_of_ble_eq_true rfl))
          have v35 : vals_ 35 = .agg (RS (meetF a b)) := hI.has 35 (Nat.le_of_ble_eq_true rfl) (hall 35 (Nat.le_of_ble_eq_true rfl))
          have v36 : vals_ 36 = .agg (RS (meetF a b)) := hI.has 36 (Nat.le_of_ble_eq_true rfl) (hall 36 (Nat.le_of_ble_eq_true rfl))
          have v37 : vals_ 37 = .agg (RS a) := hI.has 37 (Nat.le_of_ble_eq_true rfl) (hall 37 (Nat.le_of_ble_eq_true rfl))
          have v38 : vals_ 38 = .agg (RS b) := hI.has 38 (Nat.le_of_ble_eq_true rfl) (hall 38 (Nat.le_of_ble_eq_true rfl))
          have v39 : vals_ 39 = .agg (RS (meetF a b)) := hI.has 39 (Nat.le_of_ble_eq_true rfl) (hall 39 (Nat.le_of_ble_eq_true rfl))
          have v40 : vals_ 40 = .bool true := hI.has 40 (Nat.le_of_ble_eq_true rfl) (hall 40 (Nat.le_of_ble_eq_true rfl))
          have v41 : vals_ 41 = .bool true := hI.has 41 (Nat.le_of_ble_eq_true rfl) (hall 41 (Nat.le_of_ble_eq_true rfl))
          have v42 : vals_ 42 = .bool true := hI.has 42 (Nat.le_of_ble_eq_true rfl) (hall 42 (Nat.le_of_ble_eq_true rfl))
          have v43 : vals_ 43 = .bool true := hI.has 43 (Nat.le_of_ble_eq_true rfl) (hall 43 (Nat.le_of_ble_eq_true rfl))
          have v44 : vals_ 44 = .bool true := hI.has 44 (Nat.le_of_ble_eq_true rfl) (hall 44 (Nat.le_of_ble_eq_true rfl))
          have v45 : vals_ 45 = .bool true := hI.has 45 (Nat.le_of_ble_eq_true rfl) (hall 45 (Nat.le_of_ble_eq_true rfl))
          simp only [List.length_cons, List.length_nil, Nat.zero_add, Nat.reduceAdd, List.size_toArray, slots, if_true, dstOf, List.getElem?_toArray, List.getElem?_cons_zero, List.getElem?_cons_succ, Option.bind_some, Act.put, List.setIfInBounds_toArray, List.set_cons_zero, List.set_cons_succ, v0, v1, v2, v3, v4, v5, v6, v7, v8, v9, v10, v11, v12, v13, v14, v15, v16, v17, v18, v19, v20, v21, v22, v23, v24, v25, v26, v27, v28, v29, v30, v31, v32, v33, v34, v35, v36, v37, v38, v39, v40, v41, v42, v43, v44, v45]
          clear hI hall v0 v1 v2 v3 v4 v5 v6 v7 v8 v9 v10 v11 v12 v13 v14 v15 v16 v17 v18 v19 v20 v21 v22 v23 v24 v25 v26 v27 v28 v29 v30 v31 v32 v33 v34 v35 v36 v37 v38 v39 v40 v41 v42 v43 v44 v45
          change wpAny _ _ _ _ 0 _ _ _
          refine wpAny_done (by kernel_rfl) ?_ _
          have hBW := bel hBW hB
          go_wp2
          go_ret
          exact ⟨rfl, hBW⟩
theorem plays_any (a0 a1 a2 a3 b0 b1 b2 b3 x y n : Int) (w : World) :
    Calls Try.prog 5 #[.agg #[.int .i64 a0, .int .i64 a1, .int .i64 a2, .int .i64 a3], .agg #[.int .i64 b0, .int .i64 b1, .int .i64 b2, .int .i64 b3], .int .i64 x, .int .i64 y, .int .i64 n] w fun e w' => e = .returned (.bool true) ∧ Below w.heap.size w w' :=
  plays_walk ⟨a0, a1, a2, a3⟩ ⟨b0, b1, b2, b3⟩ _ _ _ x y n _ _ w rfl rfl rfl (less_len _ _)
end Go.Proofs.Ytjekoaodgdodjaa
