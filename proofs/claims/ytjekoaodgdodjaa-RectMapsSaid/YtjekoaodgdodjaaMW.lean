/- The law RectMaps at every input. -/
import Derived.Test.YtjekoaodgdodjaaMU
set_option linter.unusedVariables false
set_option linter.unusedSimpArgs false
namespace Go.Proofs.Ytjekoaodgdodjaa
open Go.RowKit
open Go.Proofs.Ytjekoaodgdodjaa.Maps
attribute [local go_sem high] eqR_is eqM_is
set_option maxRecDepth 100000 in
set_option maxHeartbeats 16000000 in
theorem maps_walk (m n t k : M6) (r b : R4) (x y u v pe ge te ke : Int) (w : World) (hp : pointF m x y = (u, v, pe)) (hb : boxF m r = (b, ge)) (ht : thenF m n = (t, te)) (hk : backF m = (k, ke)) :
    Calls Try.prog 6 #[.agg (MS m), .agg (MS n), .agg (RS r), .int .i64 x, .int .i64 y] w fun e w' => e = .returned (.bool true) ∧ Below w.heap.size w w' := by
  have HP := Lib.hid hp
  have HB := Lib.hid hb
  have HT := Lib.hid ht
  have HK := Lib.hid hk
  clear hp hb ht hk
  have hF : Hid (AllC (((w.alloc (.cells (MS m) 36)).alloc (.cells (MS n) 36)).alloc (.cells (RS r) 23)) [(w.heap.size + 2, 23, RS r), (w.heap.size + 1, 36, MS n), (w.heap.size, 36, MS m)]) := Lib.hid fun x hx => by
    simp only [List.mem_cons, List.not_mem_nil, or_false] at hx
    rcases hx with rfl | rfl | rfl
    · exact heap_new_at (by simp)
    · exact (heap_alloc_old _ _ (by simp)).trans (heap_new_at (by simp))
    · exact (heap_alloc_old _ _ (by simp only [World.size_alloc]; omega)).trans ((heap_alloc_old _ _ (by simp)).trans (heap_alloc_new w _))
  have hBW : Hid (Below w.heap.size w (((w.alloc (.cells (MS m) 36)).alloc (.cells (MS n) 36)).alloc (.cells (RS r) 23))) := Lib.hid (below_alloc (below_alloc (below_alloc (Below.refl _ _) _) _) _)
  go_enter Try.func6, Try.ntmps6
  go_wp2_with (first
    | (refine wpList_load_on (by rfl) 36 (.tmp 5) rfl _ rfl 36 (MS m) (0, 0) _ (hF.out (w.heap.size, 36, MS m) (by simp)) Try.underlying36 rfl (info36 _) ?_)
    | (go_at_call 17; refine (mapsM _ _).mono ?_; rintro e w1 ⟨rfl, hb⟩; have hF := Lib.hid (AllC.below hF.out hb); have hBW := Lib.hid (bel hBW.out hb); clear hb)
    | (go_at_call 20; refine (pointM _ _ _ _ _ _ HP.out _).mono ?_; rintro e w2 ⟨rfl, hb⟩; have hF := Lib.hid (AllC.below hF.out hb); have hBW := Lib.hid (bel hBW.out hb); clear hb)
    | (go_at_call 32; refine (pointD _ _ _ _ _ _ HP.out _).mono ?_; rintro e w3 ⟨rfl, hb⟩; have hF := Lib.hid (AllC.below hF.out hb); have hBW := Lib.hid (bel hBW.out hb); clear hb))
  have hF := hF.out
  have hBW := hBW.out
  refine drawn_st (w := w3) ([Lf.v (.int .i64 u), Lf.v (.int .i64 u), Lf.v (.bool false), Lf.v (.bool false), Lf.v (.int .i64 v), Lf.v (.int .i64 v), Lf.v (.bool false), Lf.v (.bool false), Lf.v (.bool false), Lf.v (.int .i64 pe), Lf.v (.int .i64 pe), Lf.v (.int .i64 pe), Lf.v (.bool false), Lf.v (.bool false), Lf.v (.bool false), Lf.v (.agg (MS m)), Lf.v (.agg (MS m)), Lf.v (.bool m.fine), Lf.v (.agg (MS m)), Lf.v (.bool m.fine), Lf.v (.bool false), Lf.v (.bool false)] : List Lf) (by kernel_rfl) (by kernel_rfl) (by kernel_rfl) (by kernel_rfl) ?_ ?_ ?_ ?_
  · intro i_ v_ hi a_ W hs ho hB
    have hl := (List.getElem?_eq_some_iff.1 hi).1
    rcases (show i_ = 0 ∨ i_ = 1 ∨ i_ = 2 ∨ i_ = 3 ∨ i_ = 4 ∨ i_ = 5 ∨ i_ = 6 ∨ i_ = 7 ∨ i_ = 8 ∨ i_ = 9 ∨ i_ = 10 ∨ i_ = 11 ∨ i_ = 12 ∨ i_ = 13 ∨ i_ = 14 ∨ i_ = 15 ∨ i_ = 16 ∨ i_ = 17 ∨ i_ = 18 ∨ i_ = 19 ∨ i_ = 20 ∨ i_ = 21 by simp at hl; omega) with rfl | rfl | rfl | rfl | rfl | rfl | rfl | rfl | rfl | rfl | rfl | rfl | rfl | rfl | rfl | rfl | rfl | rfl | rfl | rfl | rfl | rfl
    · obtain rfl : (.int .i64 u) = v_ := Lf.v.inj (Option.some.inj (show some (Lf.v (.int .i64 u)) = some (Lf.v v_) from hi))
      clear hi hl
      have e11 : a_.tmps[11]? = some (.int .i64 u) := (ho 11 (by kernel_rfl)).trans rfl
      refine ⟨_, rfl, fun KR hKR => ?_⟩
      rw [if_pos (show Region.wanted _ _ = true from rfl)]
      clear hs ho
      go_simp
      exact hKR _ (Below.refl _ _)
    · obtain rfl : (.int .i64 u) = v_ := Lf.v.inj (Option.some.inj (show some (Lf.v (.int .i64 u)) = some (Lf.v v_) from hi))
      clear hi hl
      have e14 : a_.tmps[14]? = some (.int .i64 u) := (ho 14 (by kernel_rfl)).trans rfl
      refine ⟨_, rfl, fun KR hKR => ?_⟩
      rw [if_pos (show Region.wanted _ _ = true from rfl)]
      clear hs ho
      go_simp
      exact hKR _ (Below.refl _ _)
    · obtain rfl : (.bool false) = v_ := Lf.v.inj (Option.some.inj (show some (Lf.v (.bool false)) = some (Lf.v v_) from hi))
      clear hi hl
      have e46 : a_.tmps[46]? = some (.int .i64 u) := hs 0 (by kernel_rfl) _ rfl 46 rfl
      have e47 : a_.tmps[47]? = some (.int .i64 u) := hs 1 (by kernel_rfl) _ rfl 47 rfl
      refine ⟨_, rfl, fun KR hKR => ?_⟩
      rw [if_pos (show Region.wanted _ _ = true from rfl)]
      clear hs ho
      go_simp
      exact hKR _ (Below.refl _ _)
    · obtain rfl : (.bool false) = v_ := Lf.v.inj (Option.some.inj (show some (Lf.v (.bool false)) = some (Lf.v v_) from hi))
      clear hi hl
      have e48 : a_.tmps[48]? = some (.bool false) := hs 2 (by kernel_rfl) _ rfl 48 rfl
      refine ⟨_, rfl, fun KR hKR => ?_⟩
      rw [if_pos (show Region.wanted _ _ = true from rfl)]
      clear hs ho
      go_simp
      exact hKR _ (Below.refl _ _)
    · obtain rfl : (.int .i64 v) = v_ := Lf.v.inj (Option.some.inj (show some (Lf.v (.int .i64 v)) = some (Lf.v v_) from hi))
      clear hi hl
      have e12 : a_.tmps[12]? = some (.int .i64 v) := (ho 12 (by kernel_rfl)).trans rfl
      have e49 : a_.tmps[49]? = some (.bool false) := hs 3 (by kernel_rfl) _ rfl 49 rfl
      refine ⟨_, rfl, fun KR hKR => ?_⟩
      rw [if_pos (wanted_of (j := 3) (d := 49) rfl rfl e49)]
      clear e49
      clear hs ho
      go_simp
      exact hKR _ (Below.refl _ _)
    · obtain rfl : (.int .i64 v) = v_ := Lf.v.inj (Option.some.inj (show some (Lf.v (.int .i64 v)) = some (Lf.v v_) from hi))
      clear hi hl
      have e15 : a_.tmps[15]? = some (.int .i64 v) := (ho 15 (by kernel_rfl)).trans rfl
      have e49 : a_.tmps[49]? = some (.bool false) := hs 3 (by kernel_rfl) _ rfl 49 rfl
      refine ⟨_, rfl, fun KR hKR => ?_⟩
      rw [if_pos (wanted_of (j := 3) (d := 49) rfl rfl e49)]
      clear e49
      clear hs ho
      go_simp
      exact hKR _ (Below.refl _ _)
    · obtain rfl : (.bool false) = v_ := Lf.v.inj (Option.some.inj (show some (Lf.v (.bool false)) = some (Lf.v v_) from hi))
      clear hi hl
      have e50 : a_.tmps[50]? = some (.int .i64 v) := hs 4 (by kernel_rfl) _ rfl 50 rfl
      have e51 : a_.tmps[51]? = some (.int .i64 v) := hs 5 (by kernel_rfl) _ rfl 51 rfl
      have e49 : a_.tmps[49]? = some (.bool false) := hs 3 (by kernel_rfl) _ rfl 49 rfl
      refine ⟨_, rfl, fun KR hKR => ?_⟩
      rw [if_pos (wanted_of (j := 3) (d := 49) rfl rfl e49)]
      clear e49
      clear hs ho
      go_simp
      exact hKR _ (Below.refl _ _)
    · obtain rfl : (.bool false) = v_ := Lf.v.inj (Option.some.inj (show some (Lf.v (.bool false)) = some (Lf.v v_) from hi))
      clear hi hl
      have e49 : a_.tmps[49]? = some (.bool false) := hs 3 (by kernel_rfl) _ rfl 49 rfl
      have e52 : a_.tmps[52]? = some (.bool false) := hs 6 (by kernel_rfl) _ rfl 52 rfl
      refine ⟨_, rfl, fun KR hKR => ?_⟩
      rw [if_pos (show Region.wanted _ _ = true from rfl)]
      clear hs ho
      go_simp
      exact hKR _ (Below.refl _ _)
    · obtain rfl : (.bool false) = v_ := Lf.v.inj (Option.some.inj (show some (Lf.v (.bool false)) = some (Lf.v v_) from hi))
      clear hi hl
      have e53 : a_.tmps[53]? = some (.bool false) := hs 7 (by kernel_rfl) _ rfl 53 rfl
      refine ⟨_, rfl, fun KR hKR => ?_⟩
      rw [if_pos (show Region.wanted _ _ = true from rfl)]
      clear hs ho
      go_simp
      exact hKR _ (Below.refl _ _)
    · obtain rfl : (.int .i64 pe) = v_ := Lf.v.inj (Option.some.inj (show some (Lf.v (.int .i64 pe)) = some (Lf.v v_) from hi))
      clear hi hl
      have e13 : a_.tmps[13]? = some (.int .i64 pe) := (ho 13 (by kernel_rfl)).trans rfl
      have e54 : a_.tmps[54]? = some (.bool false) := hs 8 (by kernel_rfl) _ rfl 54 rfl
      refine ⟨_, rfl, fun KR hKR => ?_⟩
      rw [if_pos (wanted_of (j := 8) (d := 54) rfl rfl e54)]
      clear e54
      clear hs ho
      go_simp
      exact hKR _ (Below.refl _ _)
    · obtain rfl : (.int .i64 pe) = v_ := Lf.v.inj (Option.some.inj (show some (Lf.v (.int .i64 pe)) = some (Lf.v v_) from hi))
      clear hi hl
      have e55 : a_.tmps[55]? = some (.int .i64 pe) := hs 9 (by kernel_rfl) _ rfl 55 rfl
      have e54 : a_.tmps[54]? = some (.bool false) := hs 8 (by kernel_rfl) _ rfl 54 rfl
      refine ⟨_, rfl, fun KR hKR => ?_⟩
      rw [if_pos (wanted_of (j := 8) (d := 54) rfl rfl e54)]
      clear e54
      clear hs ho
      (go_simp; (go_at_call 14; refine (num_any _ _).mono ?_; rintro e w1 ⟨rfl, rfl⟩); exact hKR _ (Below.refl _ _))
    · obtain rfl : (.int .i64 pe) = v_ := Lf.v.inj (Option.some.inj (show some (Lf.v (.int .i64 pe)) = some (Lf.v v_) from hi))
      clear hi hl
      have e16 : a_.tmps[16]? = some (.int .i64 pe) := (ho 16 (by kernel_rfl)).trans rfl
      have e54 : a_.tmps[54]? = some (.bool false) := hs 8 (by kernel_rfl) _ rfl 54 rfl
      refine ⟨_, rfl, fun KR hKR => ?_⟩
      rw [if_pos (wanted_of (j := 8) (d := 54) rfl rfl e54)]
      clear e54
      clear hs ho
      go_simp
      exact hKR _ (Below.refl _ _)
    · obtain rfl : (.bool false) = v_ := Lf.v.inj (Option.some.inj (show some (Lf.v (.bool false)) = some (Lf.v v_) from hi))
      clear hi hl
      have e56 : a_.tmps[56]? = some (.int .i64 pe) := hs 10 (by kernel_rfl) _ rfl 56 rfl
      have e57 : a_.tmps[57]? = some (.int .i64 pe) := hs 11 (by kernel_rfl) _ rfl 57 rfl
      have e54 : a_.tmps[54]? = some (.bool false) := hs 8 (by kernel_rfl) _ rfl 54 rfl
      refine ⟨_, rfl, fun KR hKR => ?_⟩
      rw [if_pos (wanted_of (j := 8) (d := 54) rfl rfl e54)]
      clear e54
      clear hs ho
      go_simp
      exact hKR _ (Below.refl _ _)
    · obtain rfl : (.bool false) = v_ := Lf.v.inj (Option.some.inj (show some (Lf.v (.bool false)) = some (Lf.v v_) from hi))
      clear hi hl
      have e54 : a_.tmps[54]? = some (.bool false) := hs 8 (by kernel_rfl) _ rfl 54 rfl
      have e58 : a_.tmps[58]? = some (.bool false) := hs 12 (by kernel_rfl) _ rfl 58 rfl
      refine ⟨_, rfl, fun KR hKR => ?_⟩
      rw [if_pos (show Region.wanted _ _ = true from rfl)]
      clear hs ho
      go_simp
      exact hKR _ (Below.refl _ _)
    · obtain rfl : (.bool false) = v_ := Lf.v.inj (Option.some.inj (show some (Lf.v (.bool false)) = some (Lf.v v_) from hi))
      clear hi hl
      have e59 : a_.tmps[59]? = some (.bool false) := hs 13 (by kernel_rfl) _ rfl 59 rfl
      refine ⟨_, rfl, fun KR hKR => ?_⟩
      rw [if_pos (show Region.wanted _ _ = true from rfl)]
      clear hs ho
      go_simp
      exact hKR _ (Below.refl _ _)
    · obtain rfl : (.agg (MS m)) = v_ := Lf.v.inj (Option.some.inj (show some (Lf.v (.agg (MS m))) = some (Lf.v v_) from hi))
      clear hi hl
      have e5 : a_.tmps[5]? = some (.pointer (some ⟨w.heap.size, 0, none⟩)) := (ho 5 (by kernel_rfl)).trans rfl
      have e60 : a_.tmps[60]? = some (.bool false) := hs 14 (by kernel_rfl) _ rfl 60 rfl
      refine ⟨_, rfl, fun KR hKR => ?_⟩
      rw [if_pos (wanted_of (j := 14) (d := 60) rfl rfl e60)]
      clear e60
      refine wp_load_row 36 (.tmp 5) rfl _ (by simp [Act.eval, e5]) 36 _ (0, 0) _ ((hB.block _ (heap_lt (hF (w.heap.size, 36, MS m) (by simp)))).trans (hF (w.heap.size, 36, MS m) (by simp))) Try.underlying36 rfl (info36 _) ?_
      exact hKR _ (Below.refl _ _)
    · obtain rfl : (.agg (MS m)) = v_ := Lf.v.inj (Option.some.inj (show some (Lf.v (.agg (MS m))) = some (Lf.v v_) from hi))
      clear hi hl
      have e61 : a_.tmps[61]? = some (.agg (MS m)) := hs 15 (by kernel_rfl) _ rfl 61 rfl
      have e60 : a_.tmps[60]? = some (.bool false) := hs 14 (by kernel_rfl) _ rfl 60 rfl
      refine ⟨_, rfl, fun KR hKR => ?_⟩
      rw [if_pos (wanted_of (j := 14) (d := 60) rfl rfl e60)]
      clear e60
      clear hs ho
      go_simp
      (go_at_call 17; refine (mapsM _ _).mono ?_; rintro e w1 ⟨rfl, hb⟩)
      exact hKR _ hb
    · obtain rfl : (.bool m.fine) = v_ := Lf.v.inj (Option.some.inj (show some (Lf.v (.bool m.fine)) = some (Lf.v v_) from hi))
      clear hi hl
      have e62 : a_.tmps[62]? = some (.agg (MS m)) := hs 16 (by kernel_rfl) _ rfl 62 rfl
      have e60 : a_.tmps[60]? = some (.bool false) := hs 14 (by kernel_rfl) _ rfl 60 rfl
      refine ⟨_, rfl, fun KR hKR => ?_⟩
      rw [if_pos (wanted_of (j := 14) (d := 60) rfl rfl e60)]
      clear e60
      clear hs ho
      go_simp
      (go_at_call 18; refine (fineM _ _).mono ?_; rintro e w1 ⟨rfl, hb⟩)
      exact hKR _ hb
    · obtain rfl : (.agg (MS m)) = v_ := Lf.v.inj (Option.some.inj (show some (Lf.v (.agg (MS m))) = some (Lf.v v_) from hi))
      clear hi hl
      have e5 : a_.tmps[5]? = some (.pointer (some ⟨w.heap.size, 0, none⟩)) := (ho 5 (by kernel_rfl)).trans rfl
      have e60 : a_.tmps[60]? = some (.bool false) := hs 14 (by kernel_rfl) _ rfl 60 rfl
      refine ⟨_, rfl, fun KR hKR => ?_⟩
      rw [if_pos (wanted_of (j := 14) (d := 60) rfl rfl e60)]
      clear e60
      refine wp_load_row 36 (.tmp 5) rfl _ (by simp [Act.eval, e5]) 36 _ (0, 0) _ ((hB.block _ (heap_lt (hF (w.heap.size, 36, MS m) (by simp)))).trans (hF (w.heap.size, 36, MS m) (by simp))) Try.underlying36 rfl (info36 _) ?_
      exact hKR _ (Below.refl _ _)
    · obtain rfl : (.bool m.fine) = v_ := Lf.v.inj (Option.some.inj (show some (Lf.v (.bool m.fine)) = some (Lf.v v_) from hi))
      clear hi hl
      have e64 : a_.tmps[64]? = some (.agg (MS m)) := hs 18 (by kernel_rfl) _ rfl 64 rfl
      have e60 : a_.tmps[60]? = some (.bool false) := hs 14 (by kernel_rfl) _ rfl 60 rfl
      refine ⟨_, rfl, fun KR hKR => ?_⟩
      rw [if_pos (wanted_of (j := 14) (d := 60) rfl rfl e60)]
      clear e60
      clear hs ho
      go_simp
      (go_at_call 33; refine (fineDM _ _).mono ?_; rintro e w1 ⟨rfl, hb⟩)
      exact hKR _ hb
    · obtain rfl : (.bool false) = v_ := Lf.v.inj (Option.some.inj (show some (Lf.v (.bool false)) = some (Lf.v v_) from hi))
      clear hi hl
      have e63 : a_.tmps[63]? = some (.bool m.fine) := hs 17 (by kernel_rfl) _ rfl 63 rfl
      have e65 : a_.tmps[65]? = some (.bool m.fine) := hs 19 (by kernel_rfl) _ rfl 65 rfl
      have e60 : a_.tmps[60]? = some (.bool false) := hs 14 (by kernel_rfl) _ rfl 60 rfl
      refine ⟨_, rfl, fun KR hKR => ?_⟩
      rw [if_pos (wanted_of (j := 14) (d := 60) rfl rfl e60)]
      clear e60
      clear hs ho
      go_simp
      exact hKR _ (Below.refl _ _)
    · obtain rfl : (.bool false) = v_ := Lf.v.inj (Option.some.inj (show some (Lf.v (.bool false)) = some (Lf.v v_) from hi))
      clear hi hl
      have e60 : a_.tmps[60]? = some (.bool false) := hs 14 (by kernel_rfl) _ rfl 60 rfl
      have e66 : a_.tmps[66]? = some (.bool false) := hs 20 (by kernel_rfl) _ rfl 66 rfl
      refine ⟨_, rfl, fun KR hKR => ?_⟩
      rw [if_pos (show Region.wanted _ _ = true from rfl)]
      clear hs ho
      go_simp
      exact hKR _ (Below.refl _ _)
  · intro i_ T_ Z_ S_ k_ hi a_ W
    have hl := (List.getElem?_eq_some_iff.1 hi).1
    rcases (show i_ = 0 ∨ i_ = 1 ∨ i_ = 2 ∨ i_ = 3 ∨ i_ = 4 ∨ i_ = 5 ∨ i_ = 6 ∨ i_ = 7 ∨ i_ = 8 ∨ i_ = 9 ∨ i_ = 10 ∨ i_ = 11 ∨ i_ = 12 ∨ i_ = 13 ∨ i_ = 14 ∨ i_ = 15 ∨ i_ = 16 ∨ i_ = 17 ∨ i_ = 18 ∨ i_ = 19 ∨ i_ = 20 ∨ i_ = 21 by simp at hl; omega) with rfl | rfl | rfl | rfl | rfl | rfl | rfl | rfl | rfl | rfl | rfl | rfl | rfl | rfl | rfl | rfl | rfl | rfl | rfl | rfl | rfl | rfl
    · exact Lf.noConfusion (Option.some.inj (show some (Lf.v (.int .i64 u)) = some (Lf.nw T_ Z_ S_ k_) from hi))
    · exact Lf.noConfusion (Option.some.inj (show some (Lf.v (.int .i64 u)) = some (Lf.nw T_ Z_ S_ k_) from hi))
    · exact Lf.noConfusion (Option.some.inj (show some (Lf.v (.bool false)) = some (Lf.nw T_ Z_ S_ k_) from hi))
    · exact Lf.noConfusion (Option.some.inj (show some (Lf.v (.bool false)) = some (Lf.nw T_ Z_ S_ k_) from hi))
    · exact Lf.noConfusion (Option.some.inj (show some (Lf.v (.int .i64 v)) = some (Lf.nw T_ Z_ S_ k_) from hi))
    · exact Lf.noConfusion (Option.some.inj (show some (Lf.v (.int .i64 v)) = some (Lf.nw T_ Z_ S_ k_) from hi))
    · exact Lf.noConfusion (Option.some.inj (show some (Lf.v (.bool false)) = some (Lf.nw T_ Z_ S_ k_) from hi))
    · exact Lf.noConfusion (Option.some.inj (show some (Lf.v (.bool false)) = some (Lf.nw T_ Z_ S_ k_) from hi))
    · exact Lf.noConfusion (Option.some.inj (show some (Lf.v (.bool false)) = some (Lf.nw T_ Z_ S_ k_) from hi))
    · exact Lf.noConfusion (Option.some.inj (show some (Lf.v (.int .i64 pe)) = some (Lf.nw T_ Z_ S_ k_) from hi))
    · exact Lf.noConfusion (Option.some.inj (show some (Lf.v (.int .i64 pe)) = some (Lf.nw T_ Z_ S_ k_) from hi))
    · exact Lf.noConfusion (Option.some.inj (show some (Lf.v (.int .i64 pe)) = some (Lf.nw T_ Z_ S_ k_) from hi))
    · exact Lf.noConfusion (Option.some.inj (show some (Lf.v (.bool false)) = some (Lf.nw T_ Z_ S_ k_) from hi))
    · exact Lf.noConfusion (Option.some.inj (show some (Lf.v (.bool false)) = some (Lf.nw T_ Z_ S_ k_) from hi))
    · exact Lf.noConfusion (Option.some.inj (show some (Lf.v (.bool false)) = some (Lf.nw T_ Z_ S_ k_) from hi))
    · exact Lf.noConfusion (Option.some.inj (show some (Lf.v (.agg (MS m))) = some (Lf.nw T_ Z_ S_ k_) from hi))
    · exact Lf.noConfusion (Option.some.inj (show some (Lf.v (.agg (MS m))) = some (Lf.nw T_ Z_ S_ k_) from hi))
    · exact Lf.noConfusion (Option.some.inj (show some (Lf.v (.bool m.fine)) = some (Lf.nw T_ Z_ S_ k_) from hi))
    · exact Lf.noConfusion (Option.some.inj (show some (Lf.v (.agg (MS m))) = some (Lf.nw T_ Z_ S_ k_) from hi))
    · exact Lf.noConfusion (Option.some.inj (show some (Lf.v (.bool m.fine)) = some (Lf.nw T_ Z_ S_ k_) from hi))
    · exact Lf.noConfusion (Option.some.inj (show some (Lf.v (.bool false)) = some (Lf.nw T_ Z_ S_ k_) from hi))
    · exact Lf.noConfusion (Option.some.inj (show some (Lf.v (.bool false)) = some (Lf.nw T_ Z_ S_ k_) from hi))
  · intro i_ m_ T_ Z_ S_ hi hm_ a_ W g_ hp_ hg hs
    have hl := (List.getElem?_eq_some_iff.1 hi).1
    rcases (show i_ = 0 ∨ i_ = 1 ∨ i_ = 2 ∨ i_ = 3 ∨ i_ = 4 ∨ i_ = 5 ∨ i_ = 6 ∨ i_ = 7 ∨ i_ = 8 ∨ i_ = 9 ∨ i_ = 10 ∨ i_ = 11 ∨ i_ = 12 ∨ i_ = 13 ∨ i_ = 14 ∨ i_ = 15 ∨ i_ = 16 ∨ i_ = 17 ∨ i_ = 18 ∨ i_ = 19 ∨ i_ = 20 ∨ i_ = 21 by simp at hl; omega) with rfl | rfl | rfl | rfl | rfl | rfl | rfl | rfl | rfl | rfl | rfl | rfl | rfl | rfl | rfl | rfl | rfl | rfl | rfl | rfl | rfl | rfl
    · exact Lf.noConfusion (Option.some.inj (show some (Lf.v (.int .i64 u)) = some (Lf.st m_) from hi))
    · exact Lf.noConfusion (Option.some.inj (show some (Lf.v (.int .i64 u)) = some (Lf.st m_) from hi))
    · exact Lf.noConfusion (Option.some.inj (show some (Lf.v (.bool false)) = some (Lf.st m_) from hi))
    · exact Lf.noConfusion (Option.some.inj (show some (Lf.v (.bool false)) = some (Lf.st m_) from hi))
    · exact Lf.noConfusion (Option.some.inj (show some (Lf.v (.int .i64 v)) = some (Lf.st m_) from hi))
    · exact Lf.noConfusion (Option.some.inj (show some (Lf.v (.int .i64 v)) = some (Lf.st m_) from hi))
    · exact Lf.noConfusion (Option.some.inj (show some (Lf.v (.bool false)) = some (Lf.st m_) from hi))
    · exact Lf.noConfusion (Option.some.inj (show some (Lf.v (.bool false)) = some (Lf.st m_) from hi))
    · exact Lf.noConfusion (Option.some.inj (show some (Lf.v (.bool false)) = some (Lf.st m_) from hi))
    · exact Lf.noConfusion (Option.some.inj (show some (Lf.v (.int .i64 pe)) = some (Lf.st m_) from hi))
    · exact Lf.noConfusion (Option.some.inj (show some (Lf.v (.int .i64 pe)) = some (Lf.st m_) from hi))
    · exact Lf.noConfusion (Option.some.inj (show some (Lf.v (.int .i64 pe)) = some (Lf.st m_) from hi))
    · exact Lf.noConfusion (Option.some.inj (show some (Lf.v (.bool false)) = some (Lf.st m_) from hi))
    · exact Lf.noConfusion (Option.some.inj (show some (Lf.v (.bool false)) = some (Lf.st m_) from hi))
    · exact Lf.noConfusion (Option.some.inj (show some (Lf.v (.bool false)) = some (Lf.st m_) from hi))
    · exact Lf.noConfusion (Option.some.inj (show some (Lf.v (.agg (MS m))) = some (Lf.st m_) from hi))
    · exact Lf.noConfusion (Option.some.inj (show some (Lf.v (.agg (MS m))) = some (Lf.st m_) from hi))
    · exact Lf.noConfusion (Option.some.inj (show some (Lf.v (.bool m.fine)) = some (Lf.st m_) from hi))
    · exact Lf.noConfusion (Option.some.inj (show some (Lf.v (.agg (MS m))) = some (Lf.st m_) from hi))
    · exact Lf.noConfusion (Option.some.inj (show some (Lf.v (.bool m.fine)) = some (Lf.st m_) from hi))
    · exact Lf.noConfusion (Option.some.inj (show some (Lf.v (.bool false)) = some (Lf.st m_) from hi))
    · exact Lf.noConfusion (Option.some.inj (show some (Lf.v (.bool false)) = some (Lf.st m_) from hi))
  · intro b_ vals_ W hall hI
    have hB := hI.bel
    have v0 : vals_ 0 = .int .i64 u := hI.has 0 (Nat.le_of_ble_eq_true rfl) (hall 0 (Nat.le_of_ble_eq_true rfl))
    have v1 : vals_ 1 = .int .i64 u := hI.has 1 (Nat.le_of_ble_eq_true rfl) (hall 1 (Nat.le_of_ble_eq_true rfl))
    have v2 : vals_ 2 = .bool false := hI.has 2 (Nat.le_of_ble_eq_true rfl) (hall 2 (Nat.le_of_ble_eq_true rfl))
    have v3 : vals_ 3 = .bool false := hI.has 3 (Nat.le_of_ble_eq_true rfl) (hall 3 (Nat.le_of_ble_eq_true rfl))
    have v4 : vals_ 4 = .int .i64 v := hI.has 4 (Nat.le_of_ble_eq_true rfl) (hall 4 (Nat.le_of_ble_eq_true rfl))
    have v5 : vals_ 5 = .int .i64 v := hI.has 5 (Nat.le_of_ble_eq_true rfl) (hall 5 (Nat.le_of_ble_eq_true rfl))
    have v6 : vals_ 6 = .bool false := hI.has 6 (Nat.le_of_ble_eq_true rfl) (hall 6 (Nat.le_of_ble_eq_true rfl))
    have v7 : vals_ 7 = .bool false := hI.has 7 (Nat.le_of_ble_eq_true rfl) (hall 7 (Nat.le_of_ble_eq_true rfl))
    have v8 : vals_ 8 = .bool false := hI.has 8 (Nat.le_of_ble_eq_true rfl) (hall 8 (Nat.le_of_ble_eq_true rfl))
    have v9 : vals_ 9 = .int .i64 pe := hI.has 9 (Nat.le_of_ble_eq_true rfl) (hall 9 (Nat.le_of_ble_eq_true rfl))
    have v10 : vals_ 10 = .int .i64 pe := hI.has 10 (Nat.le_of_ble_eq_true rfl) (hall 10 (Nat.le_of_ble_eq_true rfl))
    have v11 : vals_ 11 = .int .i64 pe := hI.has 11 (Nat.le_of_ble_eq_true rfl) (hall 11 (Nat.le_of_ble_eq_true rfl))
    have v12 : vals_ 12 = .bool false := hI.has 12 (Nat.le_of_ble_eq_true rfl) (hall 12 (Nat.le_of_ble_eq_true rfl))
    have v13 : vals_ 13 = .bool false := hI.has 13 (Nat.le_of_ble_eq_true rfl) (hall 13 (Nat.le_of_ble_eq_true rfl))
    have v14 : vals_ 14 = .bool false := hI.has 14 (Nat.le_of_ble_eq_true rfl) (hall 14 (Nat.le_of_ble_eq_true rfl))
    have v15 : vals_ 15 = .agg (MS m) := hI.has 15 (Nat.le_of_ble_eq_true rfl) (hall 15 (Nat.le_of_ble_eq_true rfl))
    have v16 : vals_ 16 = .agg (MS m) := hI.has 16 (Nat.le_of_ble_eq_true rfl) (hall 16 (Nat.le_of_ble_eq_true rfl))
    have v17 : vals_ 17 = .bool m.fine := hI.has 17 (Nat.le_of_ble_eq_true rfl) (hall 17 (Nat.le_of_ble_eq_true rfl))
    have v18 : vals_ 18 = .agg (MS m) := hI.has 18 (Nat.le_of_ble_eq_true rfl) (hall 18 (Nat.le_of_ble_eq_true rfl))
    have v19 : vals_ 19 = .bool m.fine := hI.has 19 (Nat.le_of_ble_eq_true rfl) (hall 19 (Nat.le_of_ble_eq_true rfl))
    have v20 : vals_ 20 = .bool false := hI.has 20 (Nat.le_of_ble_eq_true rfl) (hall 20 (Nat.le_of_ble_eq_true rfl))
    have v21 : vals_ 21 = .bool false := hI.has 21 (Nat.le_of_ble_eq_true rfl) (hall 21 (Nat.le_of_ble_eq_true rfl))
    simp only [List.length_cons, List.length_nil, Nat.zero_add, Nat.reduceAdd, List.size_toArray, slots, if_true, dstOf, List.getElem?_toArray, List.getElem?_cons_zero, List.getElem?_cons_succ, Option.bind_some, Act.put, List.setIfInBounds_toArray, List.set_cons_zero, List.set_cons_succ, v0, v1, v2, v3, v4, v5, v6, v7, v8, v9, v10, v11, v12, v13, v14, v15, v16, v17, v18, v19, v20, v21]
    clear hI hall v0 v1 v2 v3 v4 v5 v6 v7 v8 v9 v10 v11 v12 v13 v14 v15 v16 v17 v18 v19 v20 v21
    change wpAny _ _ _ _ 0 _ _ _
    refine wpAny_done (by kernel_rfl) ?_ _
    have hF := AllC.below hF hB
    have hBW := bel hBW hB
    obtain ⟨wa, rfl⟩ : ∃ wa, wa = W := ⟨_, rfl⟩
    clear hB
    go_wp2
    refine drawn_st (w := wa) ([Lf.v (.agg (MS m)), Lf.v (.agg (MS m)), Lf.v (.agg (RS r)), Lf.v (.agg (RS r)), Lf.v (.tuple #[.agg (RS b), .int .i64 ge]), Lf.v (.tuple #[.agg (RS b), .int .i64 ge]), Lf.v (.agg (RS b)), Lf.v (.int .i64 ge), Lf.nw 24 #[.int .i64 0, .int .i64 0, .int .i64 0, .int .i64 0] (RS b) 9, Lf.st 8, Lf.v (.int .i64 ge)] : List Lf) (by kernel_rfl) (by kernel_rfl) (by kernel_rfl) (by kernel_rfl) ?_ ?_ ?_ ?_
    · intro i_ v_ hi a_ W hs ho hB
      have hl := (List.getElem?_eq_some_iff.1 hi).1
      rcases (show i_ = 0 ∨ i_ = 1 ∨ i_ = 2 ∨ i_ = 3 ∨ i_ = 4 ∨ i_ = 5 ∨ i_ = 6 ∨ i_ = 7 ∨ i_ = 8 ∨ i_ = 9 ∨ i_ = 10 by simp at hl; omega) with rfl | rfl | rfl | rfl | rfl | rfl | rfl | rfl | rfl | rfl | rfl
      · obtain rfl : (.agg (MS m)) = v_ := Lf.v.inj (Option.some.inj (show some (Lf.v (.agg (MS m))) = some (Lf.v v_) from hi))
        clear hi hl
        have e5 : a_.tmps[5]? = some (.pointer (some ⟨w.heap.size, 0, none⟩)) := (ho 5 (by kernel_rfl)).trans rfl
        refine ⟨_, rfl, fun KR hKR => ?_⟩
        rw [if_pos (show Region.wanted _ _ = true from rfl)]
        refine wp_load_row 36 (.tmp 5) rfl _ (by simp [Act.eval, e5]) 36 _ (0, 0) _ ((hB.block _ (heap_lt (hF (w.heap.size, 36, MS m) (by simp)))).trans (hF (w.heap.size, 36, MS m) (by simp))) Try.underlying36 rfl (info36 _) ?_
        exact hKR _ (Below.refl _ _)
      · obtain rfl : (.agg (MS m)) = v_ := Lf.v.inj (Option.some.inj (show some (Lf.v (.agg (MS m))) = some (Lf.v v_) from hi))
        clear hi hl
        have e69 : a_.tmps[69]? = some (.agg (MS m)) := hs 0 (by kernel_rfl) _ rfl 69 rfl
        refine ⟨_, rfl, fun KR hKR => ?_⟩
        rw [if_pos (show Region.wanted _ _ = true from rfl)]
        clear hs ho
        go_simp
        (go_at_call 17; refine (mapsM _ _).mono ?_; rintro e w1 ⟨rfl, hb⟩)
        exact hKR _ hb
      · obtain rfl : (.agg (RS r)) = v_ := Lf.v.inj (Option.some.inj (show some (Lf.v (.agg (RS r))) = some (Lf.v v_) from hi))
        clear hi hl
        have e7 : a_.tmps[7]? = some (.pointer (some ⟨w.heap.size + 2, 0, none⟩)) := (ho 7 (by kernel_rfl)).trans rfl
        refine ⟨_, rfl, fun KR hKR => ?_⟩
        rw [if_pos (show Region.wanted _ _ = true from rfl)]
        refine wp_load_row 23 (.tmp 7) rfl _ (by simp [Act.eval, e7]) 23 _ (0, 0) _ ((hB.block _ (heap_lt (hF (w.heap.size + 2, 23, RS r) (by simp)))).trans (hF (w.heap.size + 2, 23, RS r) (by simp))) Try.underlying23 rfl (info23 _) ?_
        exact hKR _ (Below.refl _ _)
      · obtain rfl : (.agg (RS r)) = v_ := Lf.v.inj (Option.some.inj (show some (Lf.v (.agg (RS r))) = some (Lf.v v_) from hi))
        clear hi hl
        have e71 : a_.tmps[71]? = some (.agg (RS r)) := hs 2 (by kernel_rfl) _ rfl 71 rfl
        refine ⟨_, rfl, fun KR hKR => ?_⟩
        rw [if_pos (show Region.wanted _ _ = true from rfl)]
        clear hs ho
        go_simp
        (go_at_call 7; refine (ownR _ _).mono ?_; rintro e w1 ⟨rfl, hb⟩)
        exact hKR _ hb
      · obtain rfl : (.tuple #[.agg (RS b), .int .i64 ge]) = v_ := Lf.v.inj (Option.some.inj (show some (Lf.v (.tuple #[.agg (RS b), .int .i64 ge])) = some (Lf.v v_) from hi))
        clear hi hl
        have e70 : a_.tmps[70]? = some (.agg (MS m)) := hs 1 (by kernel_rfl) _ rfl 70 rfl
        have e72 : a_.tmps[72]? = some (.agg (RS r)) := hs 3 (by kernel_rfl) _ rfl 72 rfl
        refine ⟨_, rfl, fun KR hKR => ?_⟩
        rw [if_pos (show Region.wanted _ _ = true from rfl)]
        clear hs ho
        go_simp
        (go_at_call 15; refine (boxM _ _ _ _ HB.out _).mono ?_; rintro e w1 ⟨rfl, hb⟩)
        exact hKR _ hb
      · obtain rfl : (.tuple #[.agg (RS b), .int .i64 ge]) = v_ := Lf.v.inj (Option.some.inj (show some (Lf.v (.tuple #[.agg (RS b), .int .i64 ge])) = some (Lf.v v_) from hi))
        clear hi hl
        have e73 : a_.tmps[73]? = some (.tuple #[.agg (RS b), .int .i64 ge]) := hs 4 (by kernel_rfl) _ rfl 73 rfl
        refine ⟨_, rfl, fun KR hKR => ?_⟩
        rw [if_pos (show Region.wanted _ _ = true from rfl)]
        clear hs ho
        go_simp
        exact hKR _ (Below.refl _ _)
      · obtain rfl : (.agg (RS b)) = v_ := Lf.v.inj (Option.some.inj (show some (Lf.v (.agg (RS b))) = some (Lf.v v_) from hi))
        clear hi hl
        have e68 : a_.tmps[68]? = some (.tuple #[.agg (RS b), .int .i64 ge]) := hs 5 (by kernel_rfl) _ rfl 68 rfl
        refine ⟨_, rfl, fun KR hKR => ?_⟩
        rw [if_pos (show Region.wanted _ _ = true from rfl)]
        clear hs ho
        go_simp
        exact hKR _ (Below.refl _ _)
      · obtain rfl : (.int .i64 ge) = v_ := Lf.v.inj (Option.some.inj (show some (Lf.v (.int .i64 ge)) = some (Lf.v v_) from hi))
        clear hi hl
        have e68 : a_.tmps[68]? = some (.tuple #[.agg (RS b), .int .i64 ge]) := hs 5 (by kernel_rfl) _ rfl 68 rfl
        refine ⟨_, rfl, fun KR hKR => ?_⟩
        rw [if_pos (show Region.wanted _ _ = true from rfl)]
        clear hs ho
        go_simp
        exact hKR _ (Below.refl _ _)
      · exact Lf.noConfusion (Option.some.inj (show some (Lf.nw 24 #[.int .i64 0, .int .i64 0, .int .i64 0, .int .i64 0] (RS b) 9) = some (Lf.v v_) from hi))
      · exact Lf.noConfusion (Option.some.inj (show some (Lf.st 8) = some (Lf.v v_) from hi))
      · obtain rfl : (.int .i64 ge) = v_ := Lf.v.inj (Option.some.inj (show some (Lf.v (.int .i64 ge)) = some (Lf.v v_) from hi))
        clear hi hl
        have e75 : a_.tmps[75]? = some (.int .i64 ge) := hs 7 (by kernel_rfl) _ rfl 75 rfl
        refine ⟨_, rfl, fun KR hKR => ?_⟩
        rw [if_pos (show Region.wanted _ _ = true from rfl)]
        clear hs ho
        go_simp
        exact hKR _ (Below.refl _ _)
    · intro i_ T_ Z_ S_ k_ hi a_ W
      have hl := (List.getElem?_eq_some_iff.1 hi).1
      rcases (show i_ = 0 ∨ i_ = 1 ∨ i_ = 2 ∨ i_ = 3 ∨ i_ = 4 ∨ i_ = 5 ∨ i_ = 6 ∨ i_ = 7 ∨ i_ = 8 ∨ i_ = 9 ∨ i_ = 10 by simp at hl; omega) with rfl | rfl | rfl | rfl | rfl | rfl | rfl | rfl | rfl | rfl | rfl
      · exact Lf.noConfusion (Option.some.inj (show some (Lf.v (.agg (MS m))) = some (Lf.nw T_ Z_ S_ k_) from hi))
      · exact Lf.noConfusion (Option.some.inj (show some (Lf.v (.agg (MS m))) = some (Lf.nw T_ Z_ S_ k_) from hi))
      · exact Lf.noConfusion (Option.some.inj (show some (Lf.v (.agg (RS r))) = some (Lf.nw T_ Z_ S_ k_) from hi))
      · exact Lf.noConfusion (Option.some.inj (show some (Lf.v (.agg (RS r))) = some (Lf.nw T_ Z_ S_ k_) from hi))
      · exact Lf.noConfusion (Option.some.inj (show some (Lf.v (.tuple #[.agg (RS b), .int .i64 ge])) = some (Lf.nw T_ Z_ S_ k_) from hi))
      · exact Lf.noConfusion (Option.some.inj (show some (Lf.v (.tuple #[.agg (RS b), .int .i64 ge])) = some (Lf.nw T_ Z_ S_ k_) from hi))
      · exact Lf.noConfusion (Option.some.inj (show some (Lf.v (.agg (RS b))) = some (Lf.nw T_ Z_ S_ k_) from hi))
      · exact Lf.noConfusion (Option.some.inj (show some (Lf.v (.int .i64 ge)) = some (Lf.nw T_ Z_ S_ k_) from hi))
      · have h := Option.some.inj (show some (Lf.nw 24 #[.int .i64 0, .int .i64 0, .int .i64 0, .int .i64 0] (RS b) 9) = some (Lf.nw T_ Z_ S_ k_) from hi)
        injection h with q1 q2 q3 q4
        subst q1 q2 q3 q4
        clear hi hl
        refine ⟨_, rfl, fun KR hKR => ?_⟩
        rw [if_pos (show Region.wanted _ _ = true from rfl)]
        go_simp
        exact hKR
      · exact Lf.noConfusion (Option.some.inj (show some (Lf.st 8) = some (Lf.nw T_ Z_ S_ k_) from hi))
      · exact Lf.noConfusion (Option.some.inj (show some (Lf.v (.int .i64 ge)) = some (Lf.nw T_ Z_ S_ k_) from hi))
    · intro i_ m_ T_ Z_ S_ hi hm_ a_ W g_ hp_ hg hs
      have hl := (List.getElem?_eq_some_iff.1 hi).1
      rcases (show i_ = 0 ∨ i_ = 1 ∨ i_ = 2 ∨ i_ = 3 ∨ i_ = 4 ∨ i_ = 5 ∨ i_ = 6 ∨ i_ = 7 ∨ i_ = 8 ∨ i_ = 9 ∨ i_ = 10 by simp at hl; omega) with rfl | rfl | rfl | rfl | rfl | rfl | rfl | rfl | rfl | rfl | rfl
      · exact Lf.noConfusion (Option.some.inj (show some (Lf.v (.agg (MS m))) = some (Lf.st m_) from hi))
      · exact Lf.noConfusion (Option.some.inj (show some (Lf.v (.agg (MS m))) = some (Lf.st m_) from hi))
      · exact Lf.noConfusion (Option.some.inj (show some (Lf.v (.agg (RS r))) = some (Lf.st m_) from hi))
      · exact Lf.noConfusion (Option.some.inj (show some (Lf.v (.agg (RS r))) = some (Lf.st m_) from hi))
      · exact Lf.noConfusion (Option.some.inj (show some (Lf.v (.tuple #[.agg (RS b), .int .i64 ge])) = some (Lf.st m_) from hi))
      · exact Lf.noConfusion (Option.some.inj (show some (Lf.v (.tuple #[.agg (RS b), .int .i64 ge])) = some (Lf.st m_) from hi))
      · exact Lf.noConfusion (Option.some.inj (show some (Lf.v (.agg (RS b))) = some (Lf.st m_) from hi))
      · exact Lf.noConfusion (Option.some.inj (show some (Lf.v (.int .i64 ge)) = some (Lf.st m_) from hi))
      · exact Lf.noConfusion (Option.some.inj (show some (Lf.nw 24 #[.int .i64 0, .int .i64 0, .int .i64 0, .int .i64 0] (RS b) 9) = some (Lf.st m_) from hi))
      · obtain rfl : 8 = m_ := Lf.st.inj (Option.some.inj (show some (Lf.st 8) = some (Lf.st m_) from hi))
        have h := Option.some.inj (show some (Lf.nw 24 #[.int .i64 0, .int .i64 0, .int .i64 0, .int .i64 0] (RS b) 9) = some (Lf.nw T_ Z_ S_ _) from hm_)
        injection h with q1 q2 q3 q4
        subst q1 q2 q3
        clear hi hm_ hl q4
        have e17 := hp_ 17 rfl
        have e74 : a_.tmps[74]? = some (.agg (RS b)) := hs 6 (by kernel_rfl) _ rfl 74 rfl
        refine ⟨_, rfl, fun KR hKR => ?_⟩
        rw [if_pos (show Region.wanted _ _ = true from rfl)]
        exact wp_store_whole 24 (.tmp 17) (.tmp 74) rfl g_ ((RS b)) (#[.int .i64 0, .int .i64 0, .int .i64 0, .int .i64 0]) 24 (by simp [Act.eval, e17]) (by simp [Act.eval, e74]) hg rfl (info24 _) (by kernel_rfl) (fun w1 k1 k2 k3 k4 => hKR _ w1 k1 k2 k3 k4)
      · exact Lf.noConfusion (Option.some.inj (show some (Lf.v (.int .i64 ge)) = some (Lf.st m_) from hi))
    · intro b_ vals_ W hall hI
      have hB := hI.bel
      have v0 : vals_ 0 = .agg (MS m) := hI.has 0 (Nat.le_of_ble_eq_true rfl) (hall 0 (Nat.le_of_ble_eq_true rfl))
      have v1 : vals_ 1 = .agg (MS m) := hI.has 1 (Nat.le_of_ble_eq_true rfl) (hall 1 (Nat.le_of_ble_eq_true rfl))
      have v2 : vals_ 2 = .agg (RS r) := hI.has 2 (Nat.le_of_ble_eq_true rfl) (hall 2 (Nat.le_of_ble_eq_true rfl))
      have v3 : vals_ 3 = .agg (RS r) := hI.has 3 (Nat.le_of_ble_eq_true rfl) (hall 3 (Nat.le_of_ble_eq_true rfl))
      have v4 : vals_ 4 = .tuple #[.agg (RS b), .int .i64 ge] := hI.has 4 (Nat.le_of_ble_eq_true rfl) (hall 4 (Nat.le_of_ble_eq_true rfl))
      have v5 : vals_ 5 = .tuple #[.agg (RS b), .int .i64 ge] := hI.has 5 (Nat.le_of_ble_eq_true rfl) (hall 5 (Nat.le_of_ble_eq_true rfl))
      have v6 : vals_ 6 = .agg (RS b) := hI.has 6 (Nat.le_of_ble_eq_true rfl) (hall 6 (Nat.le_of_ble_eq_true rfl))
      have v7 : vals_ 7 = .int .i64 ge := hI.has 7 (Nat.le_of_ble_eq_true rfl) (hall 7 (Nat.le_of_ble_eq_true rfl))
      obtain ⟨g8, v8, hg8, hh8⟩ : ∃ g, vals_ 8 = .pointer (some ⟨g, 0, none⟩) ∧ wa.heap.size ≤ g ∧ W.heap[g]? = some (.cells (RS b) 24 (0, 0)) := by
        have h := (show ∃ g, vals_ 8 = .pointer (some ⟨g, 0, none⟩) ∧ wa.heap.size ≤ g ∧ W.heap[g]? = some (.cells (if b_ 9 = true then (RS b) else #[.int .i64 0, .int .i64 0, .int .i64 0, .int .i64 0]) 24 (0, 0)) from hI.has 8 (Nat.le_of_ble_eq_true rfl) (hall 8 (Nat.le_of_ble_eq_true rfl)))
        rw [if_pos (hall 9 (Nat.le_of_ble_eq_true rfl))] at h
        exact h
      have v10 : vals_ 10 = .int .i64 ge := hI.has 10 (Nat.le_of_ble_eq_true rfl) (hall 10 (Nat.le_of_ble_eq_true rfl))
      simp only [List.length_cons, List.length_nil, Nat.zero_add, Nat.reduceAdd, List.size_toArray, slots, if_true, dstOf, List.getElem?_toArray, List.getElem?_cons_zero, List.getElem?_cons_succ, Option.bind_some, Act.put, List.setIfInBounds_toArray, List.set_cons_zero, List.set_cons_succ, v0, v1, v2, v3, v4, v5, v6, v7, v8, v10]
      clear hI hall v0 v1 v2 v3 v4 v5 v6 v7 v8 v10
      change wpAny _ _ _ _ 0 _ _ _
      refine wpAny_done (by kernel_rfl) ?_ _
      have hF := AllC.below hF hB
      have hF := AllC.cons hF hh8
      have hBW := bel hBW hB
      obtain ⟨gb, rfl⟩ : ∃ gb, gb = g8 := ⟨_, rfl⟩
      clear hh8
      obtain ⟨wb, rfl⟩ : ∃ wb, wb = W := ⟨_, rfl⟩
      clear hB
      have hF := Lib.hid hF
      have hBW := Lib.hid hBW
      go_wp2_with (first
        | (refine wpList_load_on (by rfl) 36 (.tmp 5) rfl _ rfl 36 (MS m) (0, 0) _ (hF.out (w.heap.size, 36, MS m) (by simp)) Try.underlying36 rfl (info36 _) ?_)
        | (refine wpList_load_on (by rfl) 23 (.tmp 7) rfl _ rfl 23 (RS r) (0, 0) _ (hF.out (w.heap.size + 2, 23, RS r) (by simp)) Try.underlying23 rfl (info23 _) ?_)
        | (go_at_call 34; refine (boxD _ _ _ _ HB.out _).mono ?_; rintro e w5 ⟨rfl, hb⟩; have hF := Lib.hid (AllC.below hF.out hb); have hBW := Lib.hid (bel hBW.out hb); clear hb)
        | (refine wpList_store_whole rfl 23 (.tmp 19) (.tmp 80) rfl ?g_p1 (RS b) ?c_p1 23 ?ha_p1 ?hb_p1 ?hc_p1 ?hd_p1 ?he_p1 ?hf_p1 ?_; (case ha_p1 => rfl); (case hb_p1 => rfl); (case hc_p1 => exact heap_alloc_new _ _); (case hd_p1 => rfl); (case he_p1 => exact info23 _); (case hf_p1 => kernel_rfl); intro w6 hnew hsz hfar hbel; have hF := Lib.hid (AllC.store hF.out hnew hfar); have hBW := Lib.hid (hbel _ _ hBW.out.size (below_alloc hBW.out _)); clear hnew hsz hfar hbel))
      have hF := hF.out
      have hBW := hBW.out
      refine drawn_st (w := w6) ([Lf.v (.agg (MS m)), Lf.v (.agg (MS m)), Lf.v (.agg (MS n)), Lf.v (.agg (MS n)), Lf.v (.tuple #[.agg (MS t), .int .i64 te]), Lf.v (.tuple #[.agg (MS t), .int .i64 te]), Lf.v (.agg (MS t)), Lf.v (.int .i64 te), Lf.nw 37 #[.int .i64 0, .int .i64 0, .int .i64 0, .int .i64 0, .int .i64 0, .int .i64 0] (MS t) 9, Lf.st 8, Lf.v (.int .i64 te)] : List Lf) (by kernel_rfl) (by kernel_rfl) (by kernel_rfl) (by kernel_rfl) ?_ ?_ ?_ ?_
      · intro i_ v_ hi a_ W hs ho hB
        have hl := (List.getElem?_eq_some_iff.1 hi).1
        rcases (show i_ = 0 ∨ i_ = 1 ∨ i_ = 2 ∨ i_ = 3 ∨ i_ = 4 ∨ i_ = 5 ∨ i_ = 6 ∨ i_ = 7 ∨ i_ = 8 ∨ i_ = 9 ∨ i_ = 10 by simp at hl; omega) with rfl | rfl | rfl | rfl | rfl | rfl | rfl | rfl | rfl | rfl | rfl
        · obtain rfl : (.agg (MS m)) = v_ := Lf.v.inj (Option.some.inj (show some (Lf.v (.agg (MS m))) = some (Lf.v v_) from hi))
          clear hi hl
          have e5 : a_.tmps[5]? = some (.pointer (some ⟨w.heap.size, 0, none⟩)) := (ho 5 (by kernel_rfl)).trans rfl
          refine ⟨_, rfl, fun KR hKR => ?_⟩
          rw [if_pos (show Region.wanted _ _ = true from rfl)]
          refine wp_load_row 36 (.tmp 5) rfl _ (by simp [Act.eval, e5]) 36 _ (0, 0) _ ((hB.block _ (heap_lt (hF (w.heap.size, 36, MS m) (by simp)))).trans (hF (w.heap.size, 36, MS m) (by simp))) Try.underlying36 rfl (info36 _) ?_
          exact hKR _ (Below.refl _ _)
        · obtain rfl : (.agg (MS m)) = v_ := Lf.v.inj (Option.some.inj (show some (Lf.v (.agg (MS m))) = some (Lf.v v_) from hi))
          clear hi hl
          have e83 : a_.tmps[83]? = some (.agg (MS m)) := hs 0 (by kernel_rfl) _ rfl 83 rfl
          refine ⟨_, rfl, fun KR hKR => ?_⟩
          rw [if_pos (show Region.wanted _ _ = true from rfl)]
          clear hs ho
          go_simp
          (go_at_call 17; refine (mapsM _ _).mono ?_; rintro e w1 ⟨rfl, hb⟩)
          exact hKR _ hb
        · obtain rfl : (.agg (MS n)) = v_ := Lf.v.inj (Option.some.inj (show some (Lf.v (.agg (MS n))) = some (Lf.v v_) from hi))
          clear hi hl
          have e6 : a_.tmps[6]? = some (.pointer (some ⟨w.heap.size + 1, 0, none⟩)) := (ho 6 (by kernel_rfl)).trans rfl
          refine ⟨_, rfl, fun KR hKR => ?_⟩
          rw [if_pos (show Region.wanted _ _ = true from rfl)]
          refine wp_load_row 36 (.tmp 6) rfl _ (by simp [Act.eval, e6]) 36 _ (0, 0) _ ((hB.block _ (heap_lt (hF (w.heap.size + 1, 36, MS n) (by simp)))).trans (hF (w.heap.size + 1, 36, MS n) (by simp))) Try.underlying36 rfl (info36 _) ?_
          exact hKR _ (Below.refl _ _)
        · obtain rfl : (.agg (MS n)) = v_ := Lf.v.inj (Option.some.inj (show some (Lf.v (.agg (MS n))) = some (Lf.v v_) from hi))
          clear hi hl
          have e85 : a_.tmps[85]? = some (.agg (MS n)) := hs 2 (by kernel_rfl) _ rfl 85 rfl
          refine ⟨_, rfl, fun KR hKR => ?_⟩
          rw [if_pos (show Region.wanted _ _ = true from rfl)]
          clear hs ho
          go_simp
          (go_at_call 17; refine (mapsM _ _).mono ?_; rintro e w1 ⟨rfl, hb⟩)
          exact hKR _ hb
        · obtain rfl : (.tuple #[.agg (MS t), .int .i64 te]) = v_ := Lf.v.inj (Option.some.inj (show some (Lf.v (.tuple #[.agg (MS t), .int .i64 te])) = some (Lf.v v_) from hi))
          clear hi hl
          have e84 : a_.tmps[84]? = some (.agg (MS m)) := hs 1 (by kernel_rfl) _ rfl 84 rfl
          have e86 : a_.tmps[86]? = some (.agg (MS n)) := hs 3 (by kernel_rfl) _ rfl 86 rfl
          refine ⟨_, rfl, fun KR hKR => ?_⟩
          rw [if_pos (show Region.wanted _ _ = true from rfl)]
          clear hs ho
          go_simp
          (go_at_call 16; refine (thenM _ _ _ _ HT.out _).mono ?_; rintro e w1 ⟨rfl, hb⟩)
          exact hKR _ hb
        · obtain rfl : (.tuple #[.agg (MS t), .int .i64 te]) = v_ := Lf.v.inj (Option.some.inj (show some (Lf.v (.tuple #[.agg (MS t), .int .i64 te])) = some (Lf.v v_) from hi))
          clear hi hl
          have e87 : a_.tmps[87]? = some (.tuple #[.agg (MS t), .int .i64 te]) := hs 4 (by kernel_rfl) _ rfl 87 rfl
          refine ⟨_, rfl, fun KR hKR => ?_⟩
          rw [if_pos (show Region.wanted _ _ = true from rfl)]
          clear hs ho
          go_simp
          exact hKR _ (Below.refl _ _)
        · obtain rfl : (.agg (MS t)) = v_ := Lf.v.inj (Option.some.inj (show some (Lf.v (.agg (MS t))) = some (Lf.v v_) from hi))
          clear hi hl
          have e82 : a_.tmps[82]? = some (.tuple #[.agg (MS t), .int .i64 te]) := hs 5 (by kernel_rfl) _ rfl 82 rfl
          refine ⟨_, rfl, fun KR hKR => ?_⟩
          rw [if_pos (show Region.wanted _ _ = true from rfl)]
          clear hs ho
          go_simp
          exact hKR _ (Below.refl _ _)
        · obtain rfl : (.int .i64 te) = v_ := Lf.v.inj (Option.some.inj (show some (Lf.v (.int .i64 te)) = some (Lf.v v_) from hi))
          clear hi hl
          have e82 : a_.tmps[82]? = some (.tuple #[.agg (MS t), .int .i64 te]) := hs 5 (by kernel_rfl) _ rfl 82 rfl
          refine ⟨_, rfl, fun KR hKR => ?_⟩
          rw [if_pos (show Region.wanted _ _ = true from rfl)]
          clear hs ho
          go_simp
          exact hKR _ (Below.refl _ _)
        · exact Lf.noConfusion (Option.some.inj (show some (Lf.nw 37 #[.int .i64 0, .int .i64 0, .int .i64 0, .int .i64 0, .int .i64 0, .int .i64 0] (MS t) 9) = some (Lf.v v_) from hi))
        · exact Lf.noConfusion (Option.some.inj (show some (Lf.st 8) = some (Lf.v v_) from hi))
        · obtain rfl : (.int .i64 te) = v_ := Lf.v.inj (Option.some.inj (show some (Lf.v (.int .i64 te)) = some (Lf.v v_) from hi))
          clear hi hl
          have e89 : a_.tmps[89]? = some (.int .i64 te) := hs 7 (by kernel_rfl) _ rfl 89 rfl
          refine ⟨_, rfl, fun KR hKR => ?_⟩
          rw [if_pos (show Region.wanted _ _ = true from rfl)]
          clear hs ho
          go_simp
          exact hKR _ (Below.refl _ _)
      · intro i_ T_ Z_ S_ k_ hi a_ W
        have hl := (List.getElem?_eq_some_iff.1 hi).1
        rcases (show i_ = 0 ∨ i_ = 1 ∨ i_ = 2 ∨ i_ = 3 ∨ i_ = 4 ∨ i_ = 5 ∨ i_ = 6 ∨ i_ = 7 ∨ i_ = 8 ∨ i_ = 9 ∨ i_ = 10 by simp at hl; omega) with rfl | rfl | rfl | rfl | rfl | rfl | rfl | rfl | rfl | rfl | rfl
        · exact Lf.noConfusion (Option.some.inj (show some (Lf.v (.agg (MS m))) = some (Lf.nw T_ Z_ S_ k_) from hi))
        · exact Lf.noConfusion (Option.some.inj (show some (Lf.v (.agg (MS m))) = some (Lf.nw T_ Z_ S_ k_) from hi))
        · exact Lf.noConfusion (Option.some.inj (show some (Lf.v (.agg (MS n))) = some (Lf.nw T_ Z_ S_ k_) from hi))
        · exact Lf.noConfusion (Option.some.inj (show some (Lf.v (.agg (MS n))) = some (Lf.nw T_ Z_ S_ k_) from hi))
        · exact Lf.noConfusion (Option.some.inj (show some (Lf.v (.tuple #[.agg (MS t), .int .i64 te])) = some (Lf.nw T_ Z_ S_ k_) from hi))
        · exact Lf.noConfusion (Option.some.inj (show some (Lf.v (.tuple #[.agg (MS t), .int .i64 te])) = some (Lf.nw T_ Z_ S_ k_) from hi))
        · exact Lf.noConfusion (Option.some.inj (show some (Lf.v (.agg (MS t))) = some (Lf.nw T_ Z_ S_ k_) from hi))
        · exact Lf.noConfusion (Option.some.inj (show some (Lf.v (.int .i64 te)) = some (Lf.nw T_ Z_ S_ k_) from hi))
        · have h := Option.some.inj (show some (Lf.nw 37 #[.int .i64 0, .int .i64 0, .int .i64 0, .int .i64 0, .int .i64 0, .int .i64 0] (MS t) 9) = some (Lf.nw T_ Z_ S_ k_) from hi)
          injection h with q1 q2 q3 q4
          subst q1 q2 q3 q4
          clear hi hl
          refine ⟨_, rfl, fun KR hKR => ?_⟩
          rw [if_pos (show Region.wanted _ _ = true from rfl)]
          go_simp
          exact hKR
        · exact Lf.noConfusion (Option.some.inj (show some (Lf.st 8) = some (Lf.nw T_ Z_ S_ k_) from hi))
        · exact Lf.noConfusion (Option.some.inj (show some (Lf.v (.int .i64 te)) = some (Lf.nw T_ Z_ S_ k_) from hi))
      · intro i_ m_ T_ Z_ S_ hi hm_ a_ W g_ hp_ hg hs
        have hl := (List.getElem?_eq_some_iff.1 hi).1
        rcases (show i_ = 0 ∨ i_ = 1 ∨ i_ = 2 ∨ i_ = 3 ∨ i_ = 4 ∨ i_ = 5 ∨ i_ = 6 ∨ i_ = 7 ∨ i_ = 8 ∨ i_ = 9 ∨ i_ = 10 by simp at hl; omega) with rfl | rfl | rfl | rfl | rfl | rfl | rfl | rfl | rfl | rfl | rfl
        · exact Lf.noConfusion (Option.some.inj (show some (Lf.v (.agg (MS m))) = some (Lf.st m_) from hi))
        · exact Lf.noConfusion (Option.some.inj (show some (Lf.v (.agg (MS m))) = some (Lf.st m_) from hi))
        · exact Lf.noConfusion (Option.some.inj (show some (Lf.v (.agg (MS n))) = some (Lf.st m_) from hi))
        · exact Lf.noConfusion (Option.some.inj (show some (Lf.v (.agg (MS n))) = some (Lf.st m_) from hi))
        · exact Lf.noConfusion (Option.some.inj (show some (Lf.v (.tuple #[.agg (MS t), .int .i64 te])) = some (Lf.st m_) from hi))
        · exact Lf.noConfusion (Option.some.inj (show some (Lf.v (.tuple #[.agg (MS t), .int .i64 te])) = some (Lf.st m_) from hi))
        · exact Lf.noConfusion (Option.some.inj (show some (Lf.v (.agg (MS t))) = some (Lf.st m_) from hi))
        · exact Lf.noConfusion (Option.some.inj (show some (Lf.v (.int .i64 te)) = some (Lf.st m_) from hi))
        · exact Lf.noConfusion (Option.some.inj (show some (Lf.nw 37 #[.int .i64 0, .int .i64 0, .int .i64 0, .int .i64 0, .int .i64 0, .int .i64 0] (MS t) 9) = some (Lf.st m_) from hi))
        · obtain rfl : 8 = m_ := Lf.st.inj (Option.some.inj (show some (Lf.st 8) = some (Lf.st m_) from hi))
          have h := Option.some.inj (show some (Lf.nw 37 #[.int .i64 0, .int .i64 0, .int .i64 0, .int .i64 0, .int .i64 0, .int .i64 0] (MS t) 9) = some (Lf.nw T_ Z_ S_ _) from hm_)
          injection h with q1 q2 q3 q4
          subst q1 q2 q3
          clear hi hm_ hl q4
          have e21 := hp_ 21 rfl
          have e88 : a_.tmps[88]? = some (.agg (MS t)) := hs 6 (by kernel_rfl) _ rfl 88 rfl
          refine ⟨_, rfl, fun KR hKR => ?_⟩
          rw [if_pos (show Region.wanted _ _ = true from rfl)]
          exact wp_store_whole 37 (.tmp 21) (.tmp 88) rfl g_ ((MS t)) (#[.int .i64 0, .int .i64 0, .int .i64 0, .int .i64 0, .int .i64 0, .int .i64 0]) 37 (by simp [Act.eval, e21]) (by simp [Act.eval, e88]) hg rfl (info37 _) (by kernel_rfl) (fun w1 k1 k2 k3 k4 => hKR _ w1 k1 k2 k3 k4)
        · exact Lf.noConfusion (Option.some.inj (show some (Lf.v (.int .i64 te)) = some (Lf.st m_) from hi))
      · intro b_ vals_ W hall hI
        have hB := hI.bel
        have v0 : vals_ 0 = .agg (MS m) := hI.has 0 (Nat.le_of_ble_eq_true rfl) (hall 0 (Nat.le_of_ble_eq_true rfl))
        have v1 : vals_ 1 = .agg (MS m) := hI.has 1 (Nat.le_of_ble_eq_true rfl) (hall 1 (Nat.le_of_ble_eq_true rfl))
        have v2 : vals_ 2 = .agg (MS n) := hI.has 2 (Nat.le_of_ble_eq_true rfl) (hall 2 (Nat.le_of_ble_eq_true rfl))
        have v3 : vals_ 3 = .agg (MS n) := hI.has 3 (Nat.le_of_ble_eq_true rfl) (hall 3 (Nat.le_of_ble_eq_true rfl))
        have v4 : vals_ 4 = .tuple #[.agg (MS t), .int .i64 te] := hI.has 4 (Nat.le_of_ble_eq_true rfl) (hall 4 (Nat.le_of_ble_eq_true rfl))
        have v5 : vals_ 5 = .tuple #[.agg (MS t), .int .i64 te] := hI.has 5 (Nat.le_of_ble_eq_true rfl) (hall 5 (Nat.le_of_ble_eq_true rfl))
        have v6 : vals_ 6 = .agg (MS t) := hI.has 6 (Nat.le_of_ble_eq_true rfl) (hall 6 (Nat.le_of_ble_eq_true rfl))
        have v7 : vals_ 7 = .int .i64 te := hI.has 7 (Nat.le_of_ble_eq_true rfl) (hall 7 (Nat.le_of_ble_eq_true rfl))
        obtain ⟨g8, v8, hg8, hh8⟩ : ∃ g, vals_ 8 = .pointer (some ⟨g, 0, none⟩) ∧ w6.heap.size ≤ g ∧ W.heap[g]? = some (.cells (MS t) 37 (0, 0)) := by
          have h := (show ∃ g, vals_ 8 = .pointer (some ⟨g, 0, none⟩) ∧ w6.heap.size ≤ g ∧ W.heap[g]? = some (.cells (if b_ 9 = true then (MS t) else #[.int .i64 0, .int .i64 0, .int .i64 0, .int .i64 0, .int .i64 0, .int .i64 0]) 37 (0, 0)) from hI.has 8 (Nat.le_of_ble_eq_true rfl) (hall 8 (Nat.le_of_ble_eq_true rfl)))
          rw [if_pos (hall 9 (Nat.le_of_ble_eq_true rfl))] at h
          exact h
        have v10 : vals_ 10 = .int .i64 te := hI.has 10 (Nat.le_of_ble_eq_true rfl) (hall 10 (Nat.le_of_ble_eq_true rfl))
        simp only [List.length_cons, List.length_nil, Nat.zero_add, Nat.reduceAdd, List.size_toArray, slots, if_true, dstOf, List.getElem?_toArray, List.getElem?_cons_zero, List.getElem?_cons_succ, Option.bind_some, Act.put, List.setIfInBounds_toArray, List.set_cons_zero, List.set_cons_succ, v0, v1, v2, v3, v4, v5, v6, v7, v8, v10]
        clear hI hall v0 v1 v2 v3 v4 v5 v6 v7 v8 v10
        change wpAny _ _ _ _ 0 _ _ _
        refine wpAny_done (by kernel_rfl) ?_ _
        have hF := AllC.below hF hB
        have hF := AllC.cons hF hh8
        have hBW := bel hBW hB
        obtain ⟨gt, rfl⟩ : ∃ gt, gt = g8 := ⟨_, rfl⟩
        clear hh8
        obtain ⟨wc, rfl⟩ : ∃ wc, wc = W := ⟨_, rfl⟩
        clear hB
        have hF := Lib.hid hF
        have hBW := Lib.hid hBW
        go_wp2_with (first
          | (refine wpList_load_on (by rfl) 36 (.tmp 5) rfl _ rfl 36 (MS m) (0, 0) _ (hF.out (w.heap.size, 36, MS m) (by simp)) Try.underlying36 rfl (info36 _) ?_)
          | (refine wpList_load_on (by rfl) 36 (.tmp 6) rfl _ rfl 36 (MS n) (0, 0) _ (hF.out (w.heap.size + 1, 36, MS n) (by simp)) Try.underlying36 rfl (info36 _) ?_)
          | (go_at_call 35; refine (thenD _ _ _ _ HT.out _).mono ?_; rintro e w7 ⟨rfl, hb⟩; have hF := Lib.hid (AllC.below hF.out hb); have hBW := Lib.hid (bel hBW.out hb); clear hb)
          | (refine wpList_store_whole rfl 36 (.tmp 23) (.tmp 94) rfl ?g_p2 (MS t) ?c_p2 36 ?ha_p2 ?hb_p2 ?hc_p2 ?hd_p2 ?he_p2 ?hf_p2 ?_; (case ha_p2 => rfl); (case hb_p2 => rfl); (case hc_p2 => exact heap_alloc_new _ _); (case hd_p2 => rfl); (case he_p2 => exact info36 _); (case hf_p2 => kernel_rfl); intro w8 hnew hsz hfar hbel; have hF := Lib.hid (AllC.store hF.out hnew hfar); have hBW := Lib.hid (hbel _ _ hBW.out.size (below_alloc hBW.out _)); clear hnew hsz hfar hbel)
          | (go_at_call 17; refine (mapsM _ _).mono ?_; rintro e w9 ⟨rfl, hb⟩; have hF := Lib.hid (AllC.below hF.out hb); have hBW := Lib.hid (bel hBW.out hb); clear hb)
          | (go_at_call 36; refine (backM _ _ _ HK.out _).mono ?_; rintro e w10 ⟨rfl, hb⟩; have hF := Lib.hid (AllC.below hF.out hb); have hBW := Lib.hid (bel hBW.out hb); clear hb)
          | (refine wpList_store_whole rfl 37 (.tmp 25) (.tmp 100) rfl ?g_p3 (MS k) ?c_p3 37 ?ha_p3 ?hb_p3 ?hc_p3 ?hd_p3 ?he_p3 ?hf_p3 ?_; (case ha_p3 => rfl); (case hb_p3 => rfl); (case hc_p3 => exact heap_alloc_new _ _); (case hd_p3 => rfl); (case he_p3 => exact info37 _); (case hf_p3 => kernel_rfl); intro w11 hnew hsz hfar hbel; have hF := Lib.hid (AllC.store hF.out hnew hfar); have hBW := Lib.hid (hbel _ _ hBW.out.size (below_alloc hBW.out _)); clear hnew hsz hfar hbel)
          | (go_at_call 37; refine (backDM _ _ _ HK.out _).mono ?_; rintro e w12 ⟨rfl, hb⟩; have hF := Lib.hid (AllC.below hF.out hb); have hBW := Lib.hid (bel hBW.out hb); clear hb)
          | (refine wpList_store_whole rfl 36 (.tmp 27) (.tmp 105) rfl ?g_p4 (MS k) ?c_p4 36 ?ha_p4 ?hb_p4 ?hc_p4 ?hd_p4 ?he_p4 ?hf_p4 ?_; (case ha_p4 => rfl); (case hb_p4 => rfl); (case hc_p4 => exact heap_alloc_new _ _); (case hd_p4 => rfl); (case he_p4 => exact info36 _); (case hf_p4 => kernel_rfl); intro w13 hnew hsz hfar hbel; have hF := Lib.hid (AllC.store hF.out hnew hfar); have hBW := Lib.hid (hbel _ _ hBW.out.size (below_alloc hBW.out _)); clear hnew hsz hfar hbel))
        have hF := hF.out
        have hBW := hBW.out
        refine drawn_st (w := w13) ([Lf.v (.agg (RS b)), Lf.v (.agg (RS b)), Lf.v (.agg (RS b)), Lf.v (.bool true), Lf.v (.bool true), Lf.v (.int .i64 ge), Lf.v (.int .i64 ge), Lf.v (.int .i64 ge), Lf.v (.bool true), Lf.v (.bool true), Lf.v (.bool true), Lf.v (.agg (MS t)), Lf.v (.agg (MS t)), Lf.v (.agg (MS t)), Lf.v (.bool true), Lf.v (.bool true), Lf.v (.bool true), Lf.v (.int .i64 te), Lf.v (.int .i64 te), Lf.v (.int .i64 te), Lf.v (.bool true), Lf.v (.bool true), Lf.v (.bool true), Lf.v (.agg (MS k)), Lf.v (.agg (MS k)), Lf.v (.agg (MS k)), Lf.v (.bool true), Lf.v (.bool true), Lf.v (.bool true), Lf.v (.int .i64 ke), Lf.v (.int .i64 ke), Lf.v (.int .i64 ke), Lf.v (.bool true), Lf.v (.bool true), Lf.v (.bool true), Lf.v (.bool true), Lf.v (.bool true), Lf.v (.bool true)] : List Lf) (by kernel_rfl) (by kernel_rfl) (by kernel_rfl) (by kernel_rfl) ?_ ?_ ?_ ?_
        · intro i_ v_ hi a_ W hs ho hB
          have hl := (List.getElem?_eq_some_iff.1 hi).1
          rcases (show i_ = 0 ∨ i_ = 1 ∨ i_ = 2 ∨ i_ = 3 ∨ i_ = 4 ∨ i_ = 5 ∨ i_ = 6 ∨ i_ = 7 ∨ i_ = 8 ∨ i_ = 9 ∨ i_ = 10 ∨ i_ = 11 ∨ i_ = 12 ∨ i_ = 13 ∨ i_ = 14 ∨ i_ = 15 ∨ i_ = 16 ∨ i_ = 17 ∨ i_ = 18 ∨ i_ = 19 ∨ i_ = 20 ∨ i_ = 21 ∨ i_ = 22 ∨ i_ = 23 ∨ i_ = 24 ∨ i_ = 25 ∨ i_ = 26 ∨ i_ = 27 ∨ i_ = 28 ∨ i_ = 29 ∨ i_ = 30 ∨ i_ = 31 ∨ i_ = 32 ∨ i_ = 33 ∨ i_ = 34 ∨ i_ = 35 ∨ i_ = 36 ∨ i_ = 37 by simp at hl; omega) with rfl | rfl | rfl | rfl | rfl | rfl | rfl | rfl | rfl | rfl | rfl | rfl | rfl | rfl | rfl | rfl | rfl | rfl | rfl | rfl | rfl | rfl | rfl | rfl | rfl | rfl | rfl | rfl | rfl | rfl | rfl | rfl | rfl | rfl | rfl | rfl | rfl | rfl
          · obtain rfl : (.agg (RS b)) = v_ := Lf.v.inj (Option.some.inj (show some (Lf.v (.agg (RS b))) = some (Lf.v v_) from hi))
            clear hi hl
            have e17 : a_.tmps[17]? = some (.pointer (some ⟨gb, 0, none⟩)) := (ho 17 (by kernel_rfl)).trans rfl
            refine ⟨_, rfl, fun KR hKR => ?_⟩
            rw [if_pos (show Region.wanted _ _ = true from rfl)]
            refine wp_load_row 24 (.tmp 17) rfl _ (by simp [Act.eval, e17]) 24 _ (0, 0) _ ((hB.block _ (heap_lt (hF (gb, 24, RS b) (by simp)))).trans (hF (gb, 24, RS b) (by simp))) Try.underlying24 rfl (info24 _) ?_
            exact hKR _ (Below.refl _ _)
          · obtain rfl : (.agg (RS b)) = v_ := Lf.v.inj (Option.some.inj (show some (Lf.v (.agg (RS b))) = some (Lf.v v_) from hi))
            clear hi hl
            have e107 : a_.tmps[107]? = some (.agg (RS b)) := hs 0 (by kernel_rfl) _ rfl 107 rfl
            refine ⟨_, rfl, fun KR hKR => ?_⟩
            rw [if_pos (show Region.wanted _ _ = true from rfl)]
            clear hs ho
            go_simp
            (go_at_call 24; refine (refR _ _).mono ?_; rintro e w1 ⟨rfl, hb⟩)
            exact hKR _ hb
          · obtain rfl : (.agg (RS b)) = v_ := Lf.v.inj (Option.some.inj (show some (Lf.v (.agg (RS b))) = some (Lf.v v_) from hi))
            clear hi hl
            have e19 : a_.tmps[19]? = some (.pointer (some ⟨w5.heap.size, 0, none⟩)) := (ho 19 (by kernel_rfl)).trans rfl
            refine ⟨_, rfl, fun KR hKR => ?_⟩
            rw [if_pos (show Region.wanted _ _ = true from rfl)]
            refine wp_load_row 23 (.tmp 19) rfl _ (by simp [Act.eval, e19]) 23 _ (0, 0) _ ((hB.block _ (heap_lt (hF (w5.heap.size, 23, RS b) (by simp)))).trans (hF (w5.heap.size, 23, RS b) (by simp))) Try.underlying23 rfl (info23 _) ?_
            exact hKR _ (Below.refl _ _)
          · obtain rfl : (.bool true) = v_ := Lf.v.inj (Option.some.inj (show some (Lf.v (.bool true)) = some (Lf.v v_) from hi))
            clear hi hl
            have e108 : a_.tmps[108]? = some (.agg (RS b)) := hs 1 (by kernel_rfl) _ rfl 108 rfl
            have e109 : a_.tmps[109]? = some (.agg (RS b)) := hs 2 (by kernel_rfl) _ rfl 109 rfl
            refine ⟨_, rfl, fun KR hKR => ?_⟩
            rw [if_pos (show Region.wanted _ _ = true from rfl)]
            clear hs ho
            go_simp
            exact hKR _ (Below.refl _ _)
          · obtain rfl : (.bool true) = v_ := Lf.v.inj (Option.some.inj (show some (Lf.v (.bool true)) = some (Lf.v v_) from hi))
            clear hi hl
            have e110 : a_.tmps[110]? = some (.bool true) := hs 3 (by kernel_rfl) _ rfl 110 rfl
            refine ⟨_, rfl, fun KR hKR => ?_⟩
            rw [if_pos (show Region.wanted _ _ = true from rfl)]
            clear hs ho
            go_simp
            exact hKR _ (Below.refl _ _)
          · obtain rfl : (.int .i64 ge) = v_ := Lf.v.inj (Option.some.inj (show some (Lf.v (.int .i64 ge)) = some (Lf.v v_) from hi))
            clear hi hl
            have e18 : a_.tmps[18]? = some (.int .i64 ge) := (ho 18 (by kernel_rfl)).trans rfl
            have e111 : a_.tmps[111]? = some (.bool true) := hs 4 (by kernel_rfl) _ rfl 111 rfl
            refine ⟨_, rfl, fun KR hKR => ?_⟩
            rw [if_pos (wanted_of (j := 4) (d := 111) rfl rfl e111)]
            clear e111
            clear hs ho
            go_simp
            exact hKR _ (Below.refl _ _)
          · obtain rfl : (.int .i64 ge) = v_ := Lf.v.inj (Option.some.inj (show some (Lf.v (.int .i64 ge)) = some (Lf.v v_) from hi))
            clear hi hl
            have e112 : a_.tmps[112]? = some (.int .i64 ge) := hs 5 (by kernel_rfl) _ rfl 112 rfl
            have e111 : a_.tmps[111]? = some (.bool true) := hs 4 (by kernel_rfl) _ rfl 111 rfl
            refine ⟨_, rfl, fun KR hKR => ?_⟩
            rw [if_pos (wanted_of (j := 4) (d := 111) rfl rfl e111)]
            clear e111
            clear hs ho
            (go_simp; (go_at_call 14; refine (num_any _ _).mono ?_; rintro e w1 ⟨rfl, rfl⟩); exact hKR _ (Below.refl _ _))
          · obtain rfl : (.int .i64 ge) = v_ := Lf.v.inj (Option.some.inj (show some (Lf.v (.int .i64 ge)) = some (Lf.v v_) from hi))
            clear hi hl
            have e20 : a_.tmps[20]? = some (.int .i64 ge) := (ho 20 (by kernel_rfl)).trans rfl
            have e111 : a_.tmps[111]? = some (.bool true) := hs 4 (by kernel_rfl) _ rfl 111 rfl
            refine ⟨_, rfl, fun KR hKR => ?_⟩
            rw [if_pos (wanted_of (j := 4) (d := 111) rfl rfl e111)]
            clear e111
            clear hs ho
            go_simp
            exact hKR _ (Below.refl _ _)
          · obtain rfl : (.bool true) = v_ := Lf.v.inj (Option.some.inj (show some (Lf.v (.bool true)) = some (Lf.v v_) from hi))
            clear hi hl
            have e113 : a_.tmps[113]? = some (.int .i64 ge) := hs 6 (by kernel_rfl) _ rfl 113 rfl
            have e114 : a_.tmps[114]? = some (.int .i64 ge) := hs 7 (by kernel_rfl) _ rfl 114 rfl
            have e111 : a_.tmps[111]? = some (.bool true) := hs 4 (by kernel_rfl) _ rfl 111 rfl
            refine ⟨_, rfl, fun KR hKR => ?_⟩
            rw [if_pos (wanted_of (j := 4) (d := 111) rfl rfl e111)]
            clear e111
            clear hs ho
            go_simp
            exact hKR _ (Below.refl _ _)
          · obtain rfl : (.bool true) = v_ := Lf.v.inj (Option.some.inj (show some (Lf.v (.bool true)) = some (Lf.v v_) from hi))
            clear hi hl
            have e111 : a_.tmps[111]? = some (.bool true) := hs 4 (by kernel_rfl) _ rfl 111 rfl
            have e115 : a_.tmps[115]? = some (.bool true) := hs 8 (by kernel_rfl) _ rfl 115 rfl
            refine ⟨_, rfl, fun KR hKR => ?_⟩
            rw [if_pos (show Region.wanted _ _ = true from rfl)]
            clear hs ho
            go_simp
            exact hKR _ (Below.refl _ _)
          · obtain rfl : (.bool true) = v_ := Lf.v.inj (Option.some.inj (show some (Lf.v (.bool true)) = some (Lf.v v_) from hi))
            clear hi hl
            have e116 : a_.tmps[116]? = some (.bool true) := hs 9 (by kernel_rfl) _ rfl 116 rfl
            refine ⟨_, rfl, fun KR hKR => ?_⟩
            rw [if_pos (show Region.wanted _ _ = true from rfl)]
            clear hs ho
            go_simp
            exact hKR _ (Below.refl _ _)
          · obtain rfl : (.agg (MS t)) = v_ := Lf.v.inj (Option.some.inj (show some (Lf.v (.agg (MS t))) = some (Lf.v v_) from hi))
            clear hi hl
            have e21 : a_.tmps[21]? = some (.pointer (some ⟨gt, 0, none⟩)) := (ho 21 (by kernel_rfl)).trans rfl
            have e117 : a_.tmps[117]? = some (.bool true) := hs 10 (by kernel_rfl) _ rfl 117 rfl
            refine ⟨_, rfl, fun KR hKR => ?_⟩
            rw [if_pos (wanted_of (j := 10) (d := 117) rfl rfl e117)]
            clear e117
            refine wp_load_row 37 (.tmp 21) rfl _ (by simp [Act.eval, e21]) 37 _ (0, 0) _ ((hB.block _ (heap_lt (hF (gt, 37, MS t) (by simp)))).trans (hF (gt, 37, MS t) (by simp))) Try.underlying37 rfl (info37 _) ?_
            exact hKR _ (Below.refl _ _)
          · obtain rfl : (.agg (MS t)) = v_ := Lf.v.inj (Option.some.inj (show some (Lf.v (.agg (MS t))) = some (Lf.v v_) from hi))
            clear hi hl
            have e118 : a_.tmps[118]? = some (.agg (MS t)) := hs 11 (by kernel_rfl) _ rfl 118 rfl
            have e117 : a_.tmps[117]? = some (.bool true) := hs 10 (by kernel_rfl) _ rfl 117 rfl
            refine ⟨_, rfl, fun KR hKR => ?_⟩
            rw [if_pos (wanted_of (j := 10) (d := 117) rfl rfl e117)]
            clear e117
            clear hs ho
            go_simp
            (go_at_call 38; refine (refM _ _).mono ?_; rintro e w1 ⟨rfl, hb⟩)
            exact hKR _ hb
          · obtain rfl : (.agg (MS t)) = v_ := Lf.v.inj (Option.some.inj (show some (Lf.v (.agg (MS t))) = some (Lf.v v_) from hi))
            clear hi hl
            have e23 : a_.tmps[23]? = some (.pointer (some ⟨w7.heap.size, 0, none⟩)) := (ho 23 (by kernel_rfl)).trans rfl
            have e117 : a_.tmps[117]? = some (.bool true) := hs 10 (by kernel_rfl) _ rfl 117 rfl
            refine ⟨_, rfl, fun KR hKR => ?_⟩
            rw [if_pos (wanted_of (j := 10) (d := 117) rfl rfl e117)]
            clear e117
            refine wp_load_row 36 (.tmp 23) rfl _ (by simp [Act.eval, e23]) 36 _ (0, 0) _ ((hB.block _ (heap_lt (hF (w7.heap.size, 36, MS t) (by simp)))).trans (hF (w7.heap.size, 36, MS t) (by simp))) Try.underlying36 rfl (info36 _) ?_
            exact hKR _ (Below.refl _ _)
          · obtain rfl : (.bool true) = v_ := Lf.v.inj (Option.some.inj (show some (Lf.v (.bool true)) = some (Lf.v v_) from hi))
            clear hi hl
            have e119 : a_.tmps[119]? = some (.agg (MS t)) := hs 12 (by kernel_rfl) _ rfl 119 rfl
            have e120 : a_.tmps[120]? = some (.agg (MS t)) := hs 13 (by kernel_rfl) _ rfl 120 rfl
            have e117 : a_.tmps[117]? = some (.bool true) := hs 10 (by kernel_rfl) _ rfl 117 rfl
            refine ⟨_, rfl, fun KR hKR => ?_⟩
            rw [if_pos (wanted_of (j := 10) (d := 117) rfl rfl e117)]
            clear e117
            clear hs ho
            go_simp
            exact hKR _ (Below.refl _ _)
          · obtain rfl : (.bool true) = v_ := Lf.v.inj (Option.some.inj (show some (Lf.v (.bool true)) = some (Lf.v v_) from hi))
            clear hi hl
            have e117 : a_.tmps[117]? = some (.bool true) := hs 10 (by kernel_rfl) _ rfl 117 rfl
            have e121 : a_.tmps[121]? = some (.bool true) := hs 14 (by kernel_rfl) _ rfl 121 rfl
            refine ⟨_, rfl, fun KR hKR => ?_⟩
            rw [if_pos (show Region.wanted _ _ = true from rfl)]
            clear hs ho
            go_simp
            exact hKR _ (Below.refl _ _)
          · obtain rfl : (.bool true) = v_ := Lf.v.inj (Option.some.inj (show some (Lf.v (.bool true)) = some (Lf.v v_) from hi))
            clear hi hl
            have e122 : a_.tmps[122]? = some (.bool true) := hs 15 (by kernel_rfl) _ rfl 122 rfl
            refine ⟨_, rfl, fun KR hKR => ?_⟩
            rw [if_pos (show Region.wanted _ _ = true from rfl)]
            clear hs ho
            go_simp
            exact hKR _ (Below.refl _ _)
          · obtain rfl : (.int .i64 te) = v_ := Lf.v.inj (Option.some.inj (show some (Lf.v (.int .i64 te)) = some (Lf.v v_) from hi))
            clear hi hl
            have e22 : a_.tmps[22]? = some (.int .i64 te) := (ho 22 (by kernel_rfl)).trans rfl
            have e123 : a_.tmps[123]? = some (.bool true) := hs 16 (by kernel_rfl) _ rfl 123 rfl
            refine ⟨_, rfl, fun KR hKR => ?_⟩
            rw [if_pos (wanted_of (j := 16) (d := 123) rfl rfl e123)]
            clear e123
            clear hs ho
            go_simp
            exact hKR _ (Below.refl _ _)
          · obtain rfl : (.int .i64 te) = v_ := Lf.v.inj (Option.some.inj (show some (Lf.v (.int .i64 te)) = some (Lf.v v_) from hi))
            clear hi hl
            have e124 : a_.tmps[124]? = some (.int .i64 te) := hs 17 (by kernel_rfl) _ rfl 124 rfl
            have e123 : a_.tmps[123]? = some (.bool true) := hs 16 (by kernel_rfl) _ rfl 123 rfl
            refine ⟨_, rfl, fun KR hKR => ?_⟩
            rw [if_pos (wanted_of (j := 16) (d := 123) rfl rfl e123)]
            clear e123
            clear hs ho
            (go_simp; (go_at_call 14; refine (num_any _ _).mono ?_; rintro e w1 ⟨rfl, rfl⟩); exact hKR _ (Below.refl _ _))
          · obtain rfl : (.int .i64 te) = v_ := Lf.v.inj (Option.some.inj (show some (Lf.v (.int .i64 te)) = some (Lf.v v_) from hi))
            clear hi hl
            have e24 : a_.tmps[24]? = some (.int .i64 te) := (ho 24 (by kernel_rfl)).trans rfl
            have e123 : a_.tmps[123]? = some (.bool true) := hs 16 (by kernel_rfl) _ rfl 123 rfl
            refine ⟨_, rfl, fun KR hKR => ?_⟩
            rw [if_pos (wanted_of (j := 16) (d := 123) rfl rfl e123)]
            clear e123
            clear hs ho
            go_simp
            exact hKR _ (Below.refl _ _)
          · obtain rfl : (.bool true) = v_ := Lf.v.inj (Option.some.inj (show some (Lf.v (.bool true)) = some (Lf.v v_) from hi))
            clear hi hl
            have e125 : a_.tmps[125]? = some (.int .i64 te) := hs 18 (by kernel_rfl) _ rfl 125 rfl
            have e126 : a_.tmps[126]? = some (.int .i64 te) := hs 19 (by kernel_rfl) _ rfl 126 rfl
            have e123 : a_.tmps[123]? = some (.bool true) := hs 16 (by kernel_rfl) _ rfl 123 rfl
            refine ⟨_, rfl, fun KR hKR => ?_⟩
            rw [if_pos (wanted_of (j := 16) (d := 123) rfl rfl e123)]
            clear e123
            clear hs ho
            go_simp
            exact hKR _ (Below.refl _ _)
          · obtain rfl : (.bool true) = v_ := Lf.v.inj (Option.some.inj (show some (Lf.v (.bool true)) = some (Lf.v v_) from hi))
            clear hi hl
            have e123 : a_.tmps[123]? = some (.bool true) := hs 16 (by kernel_rfl) _ rfl 123 rfl
            have e127 : a_.tmps[127]? = some (.bool true) := hs 20 (by kernel_rfl) _ rfl 127 rfl
            refine ⟨_, rfl, fun KR hKR => ?_⟩
            rw [if_pos (show Region.wanted _ _ = true from rfl)]
            clear hs ho
            go_simp
            exact hKR _ (Below.refl _ _)
          · obtain rfl : (.bool true) = v_ := Lf.v.inj (Option.some.inj (show some (Lf.v (.bool true)) = some (Lf.v v_) from hi))
            clear hi hl
            have e128 : a_.tmps[128]? = some (.bool true) := hs 21 (by kernel_rfl) _ rfl 128 rfl
            refine ⟨_, rfl, fun KR hKR => ?_⟩
            rw [if_pos (show Region.wanted _ _ = true from rfl)]
            clear hs ho
            go_simp
            exact hKR _ (Below.refl _ _)
          · obtain rfl : (.agg (MS k)) = v_ := Lf.v.inj (Option.some.inj (show some (Lf.v (.agg (MS k))) = some (Lf.v v_) from hi))
            clear hi hl
            have e25 : a_.tmps[25]? = some (.pointer (some ⟨w10.heap.size, 0, none⟩)) := (ho 25 (by kernel_rfl)).trans rfl
            have e129 : a_.tmps[129]? = some (.bool true) := hs 22 (by kernel_rfl) _ rfl 129 rfl
            refine ⟨_, rfl, fun KR hKR => ?_⟩
            rw [if_pos (wanted_of (j := 22) (d := 129) rfl rfl e129)]
            clear e129
            refine wp_load_row 37 (.tmp 25) rfl _ (by simp [Act.eval, e25]) 37 _ (0, 0) _ ((hB.block _ (heap_lt (hF (w10.heap.size, 37, MS k) (by simp)))).trans (hF (w10.heap.size, 37, MS k) (by simp))) Try.underlying37 rfl (info37 _) ?_
            exact hKR _ (Below.refl _ _)
          · obtain rfl : (.agg (MS k)) = v_ := Lf.v.inj (Option.some.inj (show some (Lf.v (.agg (MS k))) = some (Lf.v v_) from hi))
            clear hi hl
            have e130 : a_.tmps[130]? = some (.agg (MS k)) := hs 23 (by kernel_rfl) _ rfl 130 rfl
            have e129 : a_.tmps[129]? = some (.bool true) := hs 22 (by kernel_rfl) _ rfl 129 rfl
            refine ⟨_, rfl, fun KR hKR => ?_⟩
            rw [if_pos (wanted_of (j := 22) (d := 129) rfl rfl e129)]
            clear e129
            clear hs ho
            go_simp
            (go_at_call 38; refine (refM _ _).mono ?_; rintro e w1 ⟨rfl, hb⟩)
            exact hKR _ hb
          · obtain rfl : (.agg (MS k)) = v_ := Lf.v.inj (Option.some.inj (show some (Lf.v (.agg (MS k))) = some (Lf.v v_) from hi))
            clear hi hl
            have e27 : a_.tmps[27]? = some (.pointer (some ⟨w12.heap.size, 0, none⟩)) := (ho 27 (by kernel_rfl)).trans rfl
            have e129 : a_.tmps[129]? = some (.bool true) := hs 22 (by kernel_rfl) _ rfl 129 rfl
            refine ⟨_, rfl, fun KR hKR => ?_⟩
            rw [if_pos (wanted_of (j := 22) (d := 129) rfl rfl e129)]
            clear e129
            refine wp_load_row 36 (.tmp 27) rfl _ (by simp [Act.eval, e27]) 36 _ (0, 0) _ ((hB.block _ (heap_lt (hF (w12.heap.size, 36, MS k) (by simp)))).trans (hF (w12.heap.size, 36, MS k) (by simp))) Try.underlying36 rfl (info36 _) ?_
            exact hKR _ (Below.refl _ _)
          · obtain rfl : (.bool true) = v_ := Lf.v.inj (Option.some.inj (show some (Lf.v (.bool true)) = some (Lf.v v_) from hi))
            clear hi hl
            have e131 : a_.tmps[131]? = some (.agg (MS k)) := hs 24 (by kernel_rfl) _ rfl 131 rfl
            have e132 : a_.tmps[132]? = some (.agg (MS k)) := hs 25 (by kernel_rfl) _ rfl 132 rfl
            have e129 : a_.tmps[129]? = some (.bool true) := hs 22 (by kernel_rfl) _ rfl 129 rfl
            refine ⟨_, rfl, fun KR hKR => ?_⟩
            rw [if_pos (wanted_of (j := 22) (d := 129) rfl rfl e129)]
            clear e129
            clear hs ho
            go_simp
            exact hKR _ (Below.refl _ _)
          · obtain rfl : (.bool true) = v_ := Lf.v.inj (Option.some.inj (show some (Lf.v (.bool true)) = some (Lf.v v_) from hi))
            clear hi hl
            have e129 : a_.tmps[129]? = some (.bool true) := hs 22 (by kernel_rfl) _ rfl 129 rfl
            have e133 : a_.tmps[133]? = some (.bool true) := hs 26 (by kernel_rfl) _ rfl 133 rfl
            refine ⟨_, rfl, fun KR hKR => ?_⟩
            rw [if_pos (show Region.wanted _ _ = true from rfl)]
            clear hs ho
            go_simp
            exact hKR _ (Below.refl _ _)
          · obtain rfl : (.bool true) = v_ := Lf.v.inj (Option.some.inj (show some (Lf.v (.bool true)) = some (Lf.v v_) from hi))
            clear hi hl
            have e134 : a_.tmps[134]? = some (.bool true) := hs 27 (by kernel_rfl) _ rfl 134 rfl
            refine ⟨_, rfl, fun KR hKR => ?_⟩
            rw [if_pos (show Region.wanted _ _ = true from rfl)]
            clear hs ho
            go_simp
            exact hKR _ (Below.refl _ _)
          · obtain rfl : (.int .i64 ke) = v_ := Lf.v.inj (Option.some.inj (show some (Lf.v (.int .i64 ke)) = some (Lf.v v_) from hi))
            clear hi hl
            have e26 : a_.tmps[26]? = some (.int .i64 ke) := (ho 26 (by kernel_rfl)).trans rfl
            have e135 : a_.tmps[135]? = some (.bool true) := hs 28 (by kernel_rfl) _ rfl 135 rfl
            refine ⟨_, rfl, fun KR hKR => ?_⟩
            rw [if_pos (wanted_of (j := 28) (d := 135) rfl rfl e135)]
            clear e135
            clear hs ho
            go_simp
            exact hKR _ (Below.refl _ _)
          · obtain rfl : (.int .i64 ke) = v_ := Lf.v.inj (Option.some.inj (show some (Lf.v (.int .i64 ke)) = some (Lf.v v_) from hi))
            clear hi hl
            have e136 : a_.tmps[136]? = some (.int .i64 ke) := hs 29 (by kernel_rfl) _ rfl 136 rfl
            have e135 : a_.tmps[135]? = some (.bool true) := hs 28 (by kernel_rfl) _ rfl 135 rfl
            refine ⟨_, rfl, fun KR hKR => ?_⟩
            rw [if_pos (wanted_of (j := 28) (d := 135) rfl rfl e135)]
            clear e135
            clear hs ho
            (go_simp; (go_at_call 14; refine (num_any _ _).mono ?_; rintro e w1 ⟨rfl, rfl⟩); exact hKR _ (Below.refl _ _))
          · obtain rfl : (.int .i64 ke) = v_ := Lf.v.inj (Option.some.inj (show some (Lf.v (.int .i64 ke)) = some (Lf.v v_) from hi))
            clear hi hl
            have e28 : a_.tmps[28]? = some (.int .i64 ke) := (ho 28 (by kernel_rfl)).trans rfl
            have e135 : a_.tmps[135]? = some (.bool true) := hs 28 (by kernel_rfl) _ rfl 135 rfl
            refine ⟨_, rfl, fun KR hKR => ?_⟩
            rw [if_pos (wanted_of (j := 28) (d := 135) rfl rfl e135)]
            clear e135
            clear hs ho
            go_simp
            exact hKR _ (Below.refl _ _)
          · obtain rfl : (.bool true) = v_ := Lf.v.inj (Option.some.inj (show some (Lf.v (.bool true)) = some (Lf.v v_) from hi))
            clear hi hl
            have e137 : a_.tmps[137]? = some (.int .i64 ke) := hs 30 (by kernel_rfl) _ rfl 137 rfl
            have e138 : a_.tmps[138]? = some (.int .i64 ke) := hs 31 (by kernel_rfl) _ rfl 138 rfl
            have e135 : a_.tmps[135]? = some (.bool true) := hs 28 (by kernel_rfl) _ rfl 135 rfl
            refine ⟨_, rfl, fun KR hKR => ?_⟩
            rw [if_pos (wanted_of (j := 28) (d := 135) rfl rfl e135)]
            clear e135
            clear hs ho
            go_simp
            exact hKR _ (Below.refl _ _)
          · obtain rfl : (.bool true) = v_ := Lf.v.inj (Option.some.inj (show some (Lf.v (.bool true)) = some (Lf.v v_) from hi))
            clear hi hl
            have e135 : a_.tmps[135]? = some (.bool true) := hs 28 (by kernel_rfl) _ rfl 135 rfl
            have e139 : a_.tmps[139]? = some (.bool true) := hs 32 (by kernel_rfl) _ rfl 139 rfl
            refine ⟨_, rfl, fun KR hKR => ?_⟩
            rw [if_pos (show Region.wanted _ _ = true from rfl)]
            clear hs ho
            go_simp
            exact hKR _ (Below.refl _ _)
          · obtain rfl : (.bool true) = v_ := Lf.v.inj (Option.some.inj (show some (Lf.v (.bool true)) = some (Lf.v v_) from hi))
            clear hi hl
            have e140 : a_.tmps[140]? = some (.bool true) := hs 33 (by kernel_rfl) _ rfl 140 rfl
            refine ⟨_, rfl, fun KR hKR => ?_⟩
            rw [if_pos (show Region.wanted _ _ = true from rfl)]
            clear hs ho
            go_simp
            exact hKR _ (Below.refl _ _)
          · obtain rfl : (.bool true) = v_ := Lf.v.inj (Option.some.inj (show some (Lf.v (.bool true)) = some (Lf.v v_) from hi))
            clear hi hl
            have e141 : a_.tmps[141]? = some (.bool true) := hs 34 (by kernel_rfl) _ rfl 141 rfl
            refine ⟨_, rfl, fun KR hKR => ?_⟩
            rw [if_pos (wanted_of (j := 34) (d := 141) rfl rfl e141)]
            clear e141
            clear hs ho
            go_simp
            (go_at_call 9; refine (knows_any _).mono ?_; rintro e w1 ⟨rfl, hb⟩)
            exact hKR _ hb
          · obtain rfl : (.bool true) = v_ := Lf.v.inj (Option.some.inj (show some (Lf.v (.bool true)) = some (Lf.v v_) from hi))
            clear hi hl
            have e141 : a_.tmps[141]? = some (.bool true) := hs 34 (by kernel_rfl) _ rfl 141 rfl
            have e142 : a_.tmps[142]? = some (.bool true) := hs 35 (by kernel_rfl) _ rfl 142 rfl
            refine ⟨_, rfl, fun KR hKR => ?_⟩
            rw [if_pos (show Region.wanted _ _ = true from rfl)]
            clear hs ho
            go_simp
            exact hKR _ (Below.refl _ _)
          · obtain rfl : (.bool true) = v_ := Lf.v.inj (Option.some.inj (show some (Lf.v (.bool true)) = some (Lf.v v_) from hi))
            clear hi hl
            have e143 : a_.tmps[143]? = some (.bool true) := hs 36 (by kernel_rfl) _ rfl 143 rfl
            refine ⟨_, rfl, fun KR hKR => ?_⟩
            rw [if_pos (show Region.wanted _ _ = true from rfl)]
            clear hs ho
            go_simp
            exact hKR _ (Below.refl _ _)
        · intro i_ T_ Z_ S_ k_ hi a_ W
          have hl := (List.getElem?_eq_some_iff.1 hi).1
          rcases (show i_ = 0 ∨ i_ = 1 ∨ i_ = 2 ∨ i_ = 3 ∨ i_ = 4 ∨ i_ = 5 ∨ i_ = 6 ∨ i_ = 7 ∨ i_ = 8 ∨ i_ = 9 ∨ i_ = 10 ∨ i_ = 11 ∨ i_ = 12 ∨ i_ = 13 ∨ i_ = 14 ∨ i_ = 15 ∨ i_ = 16 ∨ i_ = 17 ∨ i_ = 18 ∨ i_ = 19 ∨ i_ = 20 ∨ i_ = 21 ∨ i_ = 22 ∨ i_ = 23 ∨ i_ = 24 ∨ i_ = 25 ∨ i_ = 26 ∨ i_ = 27 ∨ i_ = 28 ∨ i_ = 29 ∨ i_ = 30 ∨ i_ = 31 ∨ i_ = 32 ∨ i_ = 33 ∨ i_ = 34 ∨ i_ = 35 ∨ i_ = 36 ∨ i_ = 37 by simp at hl; omega) with rfl | rfl | rfl | rfl | rfl | rfl | rfl | rfl | rfl | rfl | rfl | rfl | rfl | rfl | rfl | rfl | rfl | rfl | rfl | rfl | rfl | rfl | rfl | rfl | rfl | rfl | rfl | rfl | rfl | rfl | rfl | rfl | rfl | rfl | rfl | rfl | rfl | rfl
          · exact Lf.noConfusion (Option.some.inj (show some (Lf.v (.agg (RS b))) = some (Lf.nw T_ Z_ S_ k_) from hi))
          · exact Lf.noConfusion (Option.some.inj (show some (Lf.v (.agg (RS b))) = some (Lf.nw T_ Z_ S_ k_) from hi))
          · exact Lf.noConfusion (Option.some.inj (show some (Lf.v (.agg (RS b))) = some (Lf.nw T_ Z_ S_ k_) from hi))
          · exact Lf.noConfusion (Option.some.inj (show some (Lf.v (.bool true)) = some (Lf.nw T_ Z_ S_ k_) from hi))
          · exact Lf.noConfusion (Option.some.inj (show some (Lf.v (.bool true)) = some (Lf.nw T_ Z_ S_ k_) from hi))
          · exact Lf.noConfusion (Option.some.inj (show some (Lf.v (.int .i64 ge)) = some (Lf.nw T_ Z_ S_ k_) from hi))
          · exact Lf.noConfusion (Option.some.inj (show some (Lf.v (.int .i64 ge)) = some (Lf.nw T_ Z_ S_ k_) from hi))
          · exact Lf.noConfusion (Option.some.inj (show some (Lf.v (.int .i64 ge)) = some (Lf.nw T_ Z_ S_ k_) from hi))
          · exact Lf.noConfusion (Option.some.inj (show some (Lf.v (.bool true)) = some (Lf.nw T_ Z_ S_ k_) from hi))
          · exact Lf.noConfusion (Option.some.inj (show some (Lf.v (.bool true)) = some (Lf.nw T_ Z_ S_ k_) from hi))
          · exact Lf.noConfusion (Option.some.inj (show some (Lf.v (.bool true)) = some (Lf.nw T_ Z_ S_ k_) from hi))
          · exact Lf.noConfusion (Option.some.inj (show some (Lf.v (.agg (MS t))) = some (Lf.nw T_ Z_ S_ k_) from hi))
          · exact Lf.noConfusion (Option.some.inj (show some (Lf.v (.agg (MS t))) = some (Lf.nw T_ Z_ S_ k_) from hi))
          · exact Lf.noConfusion (Option.some.inj (show some (Lf.v (.agg (MS t))) = some (Lf.nw T_ Z_ S_ k_) from hi))
          · exact Lf.noConfusion (Option.some.inj (show some (Lf.v (.bool true)) = some (Lf.nw T_ Z_ S_ k_) from hi))
          · exact Lf.noConfusion (Option.some.inj (show some (Lf.v (.bool true)) = some (Lf.nw T_ Z_ S_ k_) from hi))
          · exact Lf.noConfusion (Option.some.inj (show some (Lf.v (.bool true)) = some (Lf.nw T_ Z_ S_ k_) from hi))
          · exact Lf.noConfusion (Option.some.inj (show some (Lf.v (.int .i64 te)) = some (Lf.nw T_ Z_ S_ k_) from hi))
          · exact Lf.noConfusion (Option.some.inj (show some (Lf.v (.int .i64 te)) = some (Lf.nw T_ Z_ S_ k_) from hi))
          · exact Lf.noConfusion (Option.some.inj (show some (Lf.v (.int .i64 te)) = some (Lf.nw T_ Z_ S_ k_) from hi))
          · exact Lf.noConfusion (Option.some.inj (show some (Lf.v (.bool true)) = some (Lf.nw T_ Z_ S_ k_) from hi))
          · exact Lf.noConfusion (Option.some.inj (show some (Lf.v (.bool true)) = some (Lf.nw T_ Z_ S_ k_) from hi))
          · exact Lf.noConfusion (Option.some.inj (show some (Lf.v (.bool true)) = some (Lf.nw T_ Z_ S_ k_) from hi))
          · exact Lf.noConfusion (Option.some.inj (show some (Lf.v (.agg (MS k))) = some (Lf.nw T_ Z_ S_ k_) from hi))
          · exact Lf.noConfusion (Option.some.inj (show some (Lf.v (.agg (MS k))) = some (Lf.nw T_ Z_ S_ k_) from hi))
          · exact Lf.noConfusion (Option.some.inj (show some (Lf.v (.agg (MS k))) = some (Lf.nw T_ Z_ S_ k_) from hi))
          · exact Lf.noConfusion (Option.some.inj (show some (Lf.v (.bool true)) = some (Lf.nw T_ Z_ S_ k_) from hi))
          · exact Lf.noConfusion (Option.some.inj (show some (Lf.v (.bool true)) = some (Lf.nw T_ Z_ S_ k_) from hi))
          · exact Lf.noConfusion (Option.some.inj (show some (Lf.v (.bool true)) = some (Lf.nw T_ Z_ S_ k_) from hi))
          · exact Lf.noConfusion (Option.some.inj (show some (Lf.v (.int .i64 ke)) = some (Lf.nw T_ Z_ S_ k_) from hi))
          · exact Lf.noConfusion (Option.some.inj (show some (Lf.v (.int .i64 ke)) = some (Lf.nw T_ Z_ S_ k_) from hi))
          · exact Lf.noConfusion (Option.some.inj (show some (Lf.v (.int .i64 ke)) = some (Lf.nw T_ Z_ S_ k_) from hi))
          · exact Lf.noConfusion (Option.some.inj (show some (Lf.v (.bool true)) = some (Lf.nw T_ Z_ S_ k_) from hi))
          · exact Lf.noConfusion (Option.some.inj (show some (Lf.v (.bool true)) = some (Lf.nw T_ Z_ S_ k_) from hi))
          · exact Lf.noConfusion (Option.some.inj (show some (Lf.v (.bool true)) = some (Lf.nw T_ Z_ S_ k_) from hi))
          · exact Lf.noConfusion (Option.some.inj (show some (Lf.v (.bool true)) = some (Lf.nw T_ Z_ S_ k_) from hi))
          · exact Lf.noConfusion (Option.some.inj (show some (Lf.v (.bool true)) = some (Lf.nw T_ Z_ S_ k_) from hi))
          · exact Lf.noConfusion (Option.some.inj (show some (Lf.v (.bool true)) = some (Lf.nw T_ Z_ S_ k_) from hi))
        · intro i_ m_ T_ Z_ S_ hi hm_ a_ W g_ hp_ hg hs
          have hl := (List.getElem?_eq_some_iff.1 hi).1
          rcases (show i_ = 0 ∨ i_ = 1 ∨ i_ = 2 ∨ i_ = 3 ∨ i_ = 4 ∨ i_ = 5 ∨ i_ = 6 ∨ i_ = 7 ∨ i_ = 8 ∨ i_ = 9 ∨ i_ = 10 ∨ i_ = 11 ∨ i_ = 12 ∨ i_ = 13 ∨ i_ = 14 ∨ i_ = 15 ∨ i_ = 16 ∨ i_ = 17 ∨ i_ = 18 ∨ i_ = 19 ∨ i_ = 20 ∨ i_ = 21 ∨ i_ = 22 ∨ i_ = 23 ∨ i_ = 24 ∨ i_ = 25 ∨ i_ = 26 ∨ i_ = 27 ∨ i_ = 28 ∨ i_ = 29 ∨ i_ = 30 ∨ i_ = 31 ∨ i_ = 32 ∨ i_ = 33 ∨ i_ = 34 ∨ i_ = 35 ∨ i_ = 36 ∨ i_ = 37 by simp at hl; omega) with rfl | rfl | rfl | rfl | rfl | rfl | rfl | rfl | rfl | rfl | rfl | rfl | rfl | rfl | rfl | rfl | rfl | rfl | rfl | rfl | rfl | rfl | rfl | rfl | rfl | rfl | rfl | rfl | rfl | rfl | rfl | rfl | rfl | rfl | rfl | rfl | rfl | rfl
          · exact Lf.noConfusion (Option.some.inj (show some (Lf.v (.agg (RS b))) = some (Lf.st m_) from hi))
          · exact Lf.noConfusion (Option.some.inj (show some (Lf.v (.agg (RS b))) = some (Lf.st m_) from hi))
          · exact Lf.noConfusion (Option.some.inj (show some (Lf.v (.agg (RS b))) = some (Lf.st m_) from hi))
          · exact Lf.noConfusion (Option.some.inj (show some (Lf.v (.bool true)) = some (Lf.st m_) from hi))
          · exact Lf.noConfusion (Option.some.inj (show some (Lf.v (.bool true)) = some (Lf.st m_) from hi))
          · exact Lf.noConfusion (Option.some.inj (show some (Lf.v (.int .i64 ge)) = some (Lf.st m_) from hi))
          · exact Lf.noConfusion (Option.some.inj (show some (Lf.v (.int .i64 ge)) = some (Lf.st m_) from hi))
          · exact Lf.noConfusion (Option.some.inj (show some (Lf.v (.int .i64 ge)) = some (Lf.st m_) from hi))
          · exact Lf.noConfusion (Option.some.inj (show some (Lf.v (.bool true)) = some (Lf.st m_) from hi))
          · exact Lf.noConfusion (Option.some.inj (show some (Lf.v (.bool true)) = some (Lf.st m_) from hi))
          · exact Lf.noConfusion (Option.some.inj (show some (Lf.v (.bool true)) = some (Lf.st m_) from hi))
          · exact Lf.noConfusion (Option.some.inj (show some (Lf.v (.agg (MS t))) = some (Lf.st m_) from hi))
          · exact Lf.noConfusion (Option.some.inj (show some (Lf.v (.agg (MS t))) = some (Lf.st m_) from hi))
          · exact Lf.noConfusion (Option.some.inj (show some (Lf.v (.agg (MS t))) = some (Lf.st m_) from hi))
          · exact Lf.noConfusion (Option.some.inj (show some (Lf.v (.bool true)) = some (Lf.st m_) from hi))
          · exact Lf.noConfusion (Option.some.inj (show some (Lf.v (.bool true)) = some (Lf.st m_) from hi))
          · exact Lf.noConfusion (Option.some.inj (show some (Lf.v (.bool true)) = some (Lf.st m_) from hi))
          · exact Lf.noConfusion (Option.some.inj (show some (Lf.v (.int .i64 te)) = some (Lf.st m_) from hi))
          · exact Lf.noConfusion (Option.some.inj (show some (Lf.v (.int .i64 te)) = some (Lf.st m_) from hi))
          · exact Lf.noConfusion (Option.some.inj (show some (Lf.v (.int .i64 te)) = some (Lf.st m_) from hi))
          · exact Lf.noConfusion (Option.some.inj (show some (Lf.v (.bool true)) = some (Lf.st m_) from hi))
          · exact Lf.noConfusion (Option.some.inj (show some (Lf.v (.bool true)) = some (Lf.st m_) from hi))
          · exact Lf.noConfusion (Option.some.inj (show some (Lf.v (.bool true)) = some (Lf.st m_) from hi))
          · exact Lf.noConfusion (Option.some.inj (show some (Lf.v (.agg (MS k))) = some (Lf.st m_) from hi))
          · exact Lf.noConfusion (Option.some.inj (show some (Lf.v (.agg (MS k))) = some (Lf.st m_) from hi))
          · exact Lf.noConfusion (Option.some.inj (show some (Lf.v (.agg (MS k))) = some (Lf.st m_) from hi))
          · exact Lf.noConfusion (Option.some.inj (show some (Lf.v (.bool true)) = some (Lf.st m_) from hi))
          · exact Lf.noConfusion (Option.some.inj (show some (Lf.v (.bool true)) = some (Lf.st m_) from hi))
          · exact Lf.noConfusion (Option.some.inj (show some (Lf.v (.bool true)) = some (Lf.st m_) from hi))
          · exact Lf.noConfusion (Option.some.inj (show some (Lf.v (.int .i64 ke)) = some (Lf.st m_) from hi))
          · exact Lf.noConfusion (Option.some.inj (show some (Lf.v (.int .i64 ke)) = some (Lf.st m_) from hi))
          · exact Lf.noConfusion (Option.some.inj (show some (Lf.v (.int .i64 ke)) = some (Lf.st m_) from hi))
          · exact Lf.noConfusion (Option.some.inj (show some (Lf.v (.bool true)) = some (Lf.st m_) from hi))
          · exact Lf.noConfusion (Option.some.inj (show some (Lf.v (.bool true)) = some (Lf.st m_) from hi))
          · exact Lf.noConfusion (Option.some.inj (show some (Lf.v (.bool true)) = some (Lf.st m_) from hi))
          · exact Lf.noConfusion (Option.some.inj (show some (Lf.v (.bool true)) = some (Lf.st m_) from hi))
          · exact Lf.noConfusion (Option.some.inj (show some (Lf.v (.bool true)) = some (Lf.st m_) from hi))
          · exact Lf.noConfusion (Option.some.inj (show some (Lf.v (.bool true)) = some (Lf.st m_) from hi))
        · intro b_ vals_ W hall hI
          have hB := hI.bel
          have v0 : vals_ 0 = .agg (RS b) := hI.has 0 (Nat.le_of_ble_eq_true rfl) (hall 0 (Nat.le_of_ble_eq_true rfl))
          have v1 : vals_ 1 = .agg (RS b) := hI.has 1 (Nat.le_of_ble_eq_true rfl) (hall 1 (Nat.le_of_ble_eq_true rfl))
          have v2 : vals_ 2 = .agg (RS b) := hI.has 2 (Nat.le_of_ble_eq_true rfl) (hall 2 (Nat.le_of_ble_eq_true rfl))
          have v3 : vals_ 3 = .bool true := hI.has 3 (Nat.le_of_ble_eq_true rfl) (hall 3 (Nat.le_of_ble_eq_true rfl))
          have v4 : vals_ 4 = .bool true := hI.has 4 (Nat.le_of_ble_eq_true rfl) (hall 4 (Nat.le_of_ble_eq_true rfl))
          have v5 : vals_ 5 = .int .i64 ge := hI.has 5 (Nat.le_of_ble_eq_true rfl) (hall 5 (Nat.le_of_ble_eq_true rfl))
          have v6 : vals_ 6 = .int .i64 ge := hI.has 6 (Nat.le_of_ble_eq_true rfl) (hall 6 (Nat.le_of_ble_eq_true rfl))
          have v7 : vals_ 7 = .int .i64 ge := hI.has 7 (Nat.le_of_ble_eq_true rfl) (hall 7 (Nat.le_of_ble_eq_true rfl))
          have v8 : vals_ 8 = .bool true := hI.has 8 (Nat.le_of_ble_eq_true rfl) (hall 8 (Nat.le_of_ble_eq_true rfl))
          have v9 : vals_ 9 = .bool true := hI.has 9 (Nat.le_of_ble_eq_true rfl) (hall 9 (Nat.le_of_ble_eq_true rfl))
          have v10 : vals_ 10 = .bool true := hI.has 10 (Nat.le_of_ble_eq_true rfl) (hall 10 (Nat.le_of_ble_eq_true rfl))
          have v11 : vals_ 11 = .agg (MS t) := hI.has 11 (Nat.le_of_ble_eq_true rfl) (hall 11 (Nat.le_of_ble_eq_true rfl))
          have v12 : vals_ 12 = .agg (MS t) := hI.has 12 (Nat.le_of_ble_eq_true rfl) (hall 12 (Nat.le_of_ble_eq_true rfl))
          have v13 : vals_ 13 = .agg (MS t) := hI.has 13 (Nat.le_of_ble_eq_true rfl) (hall 13 (Nat.le_of_ble_eq_true rfl))
          have v14 : vals_ 14 = .bool true := hI.has 14 (Nat.le_of_ble_eq_true rfl) (hall 14 (Nat.le_of_ble_eq_true rfl))
          have v15 : vals_ 15 = .bool true := hI.has 15 (Nat.le_of_ble_eq_true rfl) (hall 15 (Nat.le_of_ble_eq_true rfl))
          have v16 : vals_ 16 = .bool true := hI.has 16 (Nat.le_of_ble_eq_true rfl) (hall 16 (Nat.le_of_ble_eq_true rfl))
          have v17 : vals_ 17 = .int .i64 te := hI.has 17 (Nat.le_of_ble_eq_true rfl) (hall 17 (Nat.le_of_ble_eq_true rfl))
          have v18 : vals_ 18 = .int .i64 te := hI.has 18 (Nat.le_of_ble_eq_true rfl) (hall 18 (Nat.le_of_ble_eq_true rfl))
          have v19 : vals_ 19 = .int .i64 te := hI.has 19 (Nat.le_of_ble_eq_true rfl) (hall 19 (Nat.le_of_ble_eq_true rfl))
          have v20 : vals_ 20 = .bool true := hI.has 20 (Nat.le_of_ble_eq_true rfl) (hall 20 (Nat.le_of_ble_eq_true rfl))
          have v21 : vals_ 21 = .bool true := hI.has 21 (Nat.le_of_ble_eq_true rfl) (hall 21 (Nat.le_of_ble_eq_true rfl))
          have v22 : vals_ 22 = .bool true := hI.has 22 (Nat.le_of_ble_eq_true rfl) (hall 22 (Nat.le_of_ble_eq_true rfl))
          have v23 : vals_ 23 = .agg (MS k) := hI.has 23 (Nat.le_of_ble_eq_true rfl) (hall 23 (Nat.le_of_ble_eq_true rfl))
          have v24 : vals_ 24 = .agg (MS k) := hI.has 24 (Nat.le_of_ble_eq_true rfl) (hall 24 (Nat.le_of_ble_eq_true rfl))
          have v25 : vals_ 25 = .agg (MS k) := hI.has 25 (Nat.le_of_ble_eq_true rfl) (hall 25 (Nat.le_of_ble_eq_true rfl))
          have v26 : vals_ 26 = .bool true := hI.has 26 (Nat.le_of_ble_eq_true rfl) (hall 26 (Nat.le_of_ble_eq_true rfl))
          have v27 : vals_ 27 = .bool true := hI.has 27 (Nat.le_of_ble_eq_true rfl) (hall 27 (Nat.le_of_ble_eq_true rfl))
          have v28 : vals_ 28 = .bool true := hI.has 28 (Nat.le_of_ble_eq_true rfl) (hall 28 (Nat.le_of_ble_eq_true rfl))
          have v29 : vals_ 29 = .int .i64 ke := hI.has 29 (Nat.le_of_ble_eq_true rfl) (hall 29 (Nat.le_of_ble_eq_true rfl))
          have v30 : vals_ 30 = .int .i64 ke := hI.has 30 (Nat.le_of_ble_eq_true rfl) (hall 30 (Nat.le_of_ble_eq_true rfl))
          have v31 : vals_ 31 = .int .i64 ke := hI.has 31 (Nat.le_of_ble_eq_true rfl) (hall 31 (Nat.le_of_ble_eq_true rfl))
          have v32 : vals_ 32 = .bool true := hI.has 32 (Nat.le_of_ble_eq_true rfl) (hall 32 (Nat.le_of_ble_eq_true rfl))
          have v33 : vals_ 33 = .bool true := hI.has 33 (Nat.le_of_ble_eq_true rfl) (hall 33 (Nat.le_of_ble_eq_true rfl))
          have v34 : vals_ 34 = .bool true := hI.has 34 (Nat.le_of_ble_eq_true rfl) (hall 34 (Nat.le_of_ble_eq_true rfl))
          have v35 : vals_ 35 = .bool true := hI.has 35 (Nat.le_of_ble_eq_true rfl) (hall 35 (Nat.le_of_ble_eq_true rfl))
          have v36 : vals_ 36 = .bool true := hI.has 36 (Nat.le_of_ble_eq_true rfl) (hall 36 (Nat.le_of_ble_eq_true rfl))
          have v37 : vals_ 37 = .bool true := hI.has 37 (Nat.le_of_ble_eq_true rfl) (hall 37 (Nat.le_of_ble_eq_true rfl))
          simp only [List.length_cons, List.length_nil, Nat.zero_add, Nat.reduceAdd, List.size_toArray, slots, if_true, dstOf, List.getElem?_toArray, List.getElem?_cons_zero, List.getElem?_cons_succ, Option.bind_some, Act.put, List.setIfInBounds_toArray, List.set_cons_zero, List.set_cons_succ, v0, v1, v2, v3, v4, v5, v6, v7, v8, v9, v10, v11, v12, v13, v14, v15, v16, v17, v18, v19, v20, v21, v22, v23, v24, v25, v26, v27, v28, v29, v30, v31, v32, v33, v34, v35, v36, v37]
          clear hI hall v0 v1 v2 v3 v4 v5 v6 v7 v8 v9 v10 v11 v12 v13 v14 v15 v16 v17 v18 v19 v20 v21 v22 v23 v24 v25 v26 v27 v28 v29 v30 v31 v32 v33 v34 v35 v36 v37
          change wpAny _ _ _ _ 0 _ _ _
          refine wpAny_done (by kernel_rfl) ?_ _
          have hBW := bel hBW hB
          go_wp2
          go_ret
          exact ⟨rfl, hBW⟩
theorem maps_any (a0 a1 a2 a3 a4 a5 b0 b1 b2 b3 b4 b5 c0 c1 c2 c3 x y : Int) (w : World) :
    Calls Try.prog 6 #[.agg #[.int .i64 a0, .int .i64 a1, .int .i64 a2, .int .i64 a3, .int .i64 a4, .int .i64 a5], .agg #[.int .i64 b0, .int .i64 b1, .int .i64 b2, .int .i64 b3, .int .i64 b4, .int .i64 b5], .agg #[.int .i64 c0, .int .i64 c1, .int .i64 c2, .int .i64 c3], .int .i64 x, .int .i64 y] w fun e w' => e = .returned (.bool true) ∧ Below w.heap.size w w' :=
  maps_walk ⟨a0, a1, a2, a3, a4, a5⟩ ⟨b0, b1, b2, b3, b4, b5⟩ _ _ ⟨c0, c1, c2, c3⟩ _ x y _ _ _ _ _ _ w rfl rfl rfl rfl
end Go.Proofs.Ytjekoaodgdodjaa
