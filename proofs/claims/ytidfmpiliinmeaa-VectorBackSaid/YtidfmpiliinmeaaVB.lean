/- The law VectorBack at every input. -/
import Derived.Test.YtidfmpiliinmeaaTa
import Derived.Test.YtidfmpiliinmeaaLb
import Derived.Test.YtidfmpiliinmeaaDw
set_option linter.unusedVariables false
set_option linter.unusedSimpArgs false
namespace Go.Proofs.Ytidfmpiliinmeaa
open Go.RowKit
attribute [local go_sem] eqV_is
theorem vback_no (a : Nat → Int) (w : World) (hr : rightB a = false) : Calls Try.prog 6 #[.agg (CS a)] w fun e w' => e = .returned (.bool true) ∧ Below w.heap.size w w' := by
  have HR := Lib.hid hr
  clear hr
  have HX : Hid ((w.alloc (.cells (CS a) 23)).heap[w.heap.size]? = some (.cells (CS a) 23 (0, 0))) := Lib.hid (heap_alloc_new w _)
  have HB : Hid (Below w.heap.size w (w.alloc (.cells (CS a) 23))) := Lib.hid (below_alloc (Below.refl _ _) _)
  go_enter Try.func6, Try.ntmps6
  go_wp2_with (first
    | (refine wpList_load_on (by rfl) 23 (.tmp 1) rfl _ rfl 23 (CS a) (0, 0) _ HX.out Try.underlying23 rfl (info23 _) ?_)
    | (refine wpList_load_on (by rfl) 24 (.tmp 3) rfl _ rfl 24 (CS a) (0, 0) _ HX.out Try.underlying24 rfl (info24 _) ?_)
    | (refine wpList_store_whole rfl 24 (.tmp 3) (.tmp 7) rfl ?g_1 (CS a) ?c_1 24 ?ha_1 ?hb_1 ?hc_1 ?hd_1 ?he_1 ?hf_1 ?_; (case ha_1 => rfl); (case hb_1 => rfl); (case hc_1 => refine heap_new_at ?_; simp); (case hd_1 => rfl); (case he_1 => exact info24 _); (case hf_1 => kernel_rfl); (intro w1 hX hs1 hfar hbel; have HX := Lib.hid hX; have HB := Lib.hid (hbel _ _ (by omega) (below_alloc HB.out _)); clear hX hs1 hfar hbel))
    | (go_at_call 14; refine (putV_no a _ HR.out).mono ?_; rintro e w2 ⟨rfl, hb⟩; have HX := Lib.hid ((hb.block _ (heap_lt HX.out)).trans HX.out); have HB := Lib.hid (bel HB.out hb); clear hb)
    | (go_at_call 12; refine (rightV_is _ _ HR.out _).mono ?_; rintro e w3 ⟨rfl, hb⟩; have HB := Lib.hid (bel HB.out hb); clear hb)
    | (go_at_call 16; refine (num_any _ _).mono ?_; rintro e w1 ⟨rfl, rfl⟩)
    | (go_at_call 11; refine (knows_any _).mono ?_; rintro e w4 ⟨rfl, hb⟩; have HB := Lib.hid (bel HB.out hb); clear hb))
  go_ret
  exact ⟨rfl, HB.out⟩
/-- The world in region 6: ahead of Take's call, and behind it. -/
def VS (w : World) (a : Nat → Int) (gr g c : Nat) (t : Bool) (W : World) : Prop := Below w.heap.size w W ∧ W.heap[w.heap.size + 1]? = some (.cells (CS a) 24 (0, 0)) ∧ (t = false → RdAt W gr g 0 c (putL a)) ∧ (t = true → ∃ off c', RdAt W gr g off c' [])
theorem VS.below {w : World} {a : Nat → Int} {gr g c : Nat} {t : Bool} {W W1 : World} (h : VS w a gr g c t W) (hb : Below W.heap.size W W1) : VS w a gr g c t W1 :=
  ⟨bel h.1 hb, (hb.block _ (heap_lt h.2.1)).trans h.2.1, fun e => (h.2.2.1 e).below hb, fun e => by obtain ⟨o, c', hR⟩ := h.2.2.2 e; exact ⟨o, c', hR.below hb⟩⟩
theorem VS.take {w : World} {a : Nat → Int} {gr g c : Nat} {t : Bool} {W W1 : World} (h : VS w a gr g c t W) (hg : w.heap.size + 1 < gr) (h1 : ∃ off c, RdAt W1 gr g off c []) (h3 : ∀ k, k < W.heap.size → k ≠ gr → W1.heap[k]? = W.heap[k]?) (h4 : ∀ B w0, B ≤ gr → Below B w0 W → Below B w0 W1) : VS w a gr g c true W1 :=
  ⟨h4 _ _ (by omega) h.1, (h3 _ (heap_lt h.2.1) (by omega)).trans h.2.1, fun e => (by cases e), fun _ => h1⟩
set_option maxHeartbeats 4000000 in
theorem vback_yes (a : Nat → Int) (w : World) (hr : rightB a = true) : Calls Try.prog 6 #[.agg (CS a)] w fun e w' => e = .returned (.bool true) ∧ Below w.heap.size w w' := by
  have HRt := Lib.hid hr
  have heq := head_all a hr
  have HEQ := Lib.hid heq
  have hpl := putL_len a
  have hp0 : 0 < (putL a).length := by
    have := numL_len (lastTo a 16)
    simp only [putL, List.length_append]
    omega
  clear hr heq
  have HX : Hid ((w.alloc (.cells (CS a) 23)).heap[w.heap.size]? = some (.cells (CS a) 23 (0, 0))) := Lib.hid (heap_alloc_new w _)
  have HB : Hid (Below w.heap.size w (w.alloc (.cells (CS a) 23))) := Lib.hid (below_alloc (Below.refl _ _) _)
  go_enter Try.func6, Try.ntmps6
  go_wp2_with (first
    | (refine wpList_load_on (by rfl) 23 (.tmp 1) rfl _ rfl 23 (CS a) (0, 0) _ HX.out Try.underlying23 rfl (info23 _) ?_)
    | (refine wpList_load_on (by rfl) 24 (.tmp 3) rfl _ rfl 24 (CS a) (0, 0) _ HX.out Try.underlying24 rfl (info24 _) ?_)
    | (refine wpList_store_whole rfl 24 (.tmp 3) (.tmp 7) rfl ?g_1 (CS a) ?c_1 24 ?ha_1 ?hb_1 ?hc_1 ?hd_1 ?he_1 ?hf_1 ?_; (case ha_1 => rfl); (case hb_1 => rfl); (case hc_1 => refine heap_new_at ?_; simp); (case hd_1 => rfl); (case he_1 => exact info24 _); (case hf_1 => kernel_rfl); (intro w1 hX hs1 hfar hbel; have HX := Lib.hid hX; have HB := Lib.hid (hbel _ _ (by omega) (below_alloc HB.out _)); clear hX hs1 hfar hbel))
    | (go_at_call 14; refine (putV_yes a _ HRt.out).mono ?_; rintro e w2 ⟨v2, rfl, hO, hb⟩; have HO := Lib.hid hO; have HX := Lib.hid ((hb.block _ (heap_lt HX.out)).trans HX.out); have HB := Lib.hid (bel HB.out hb); clear hb hO)
    | (go_at_call 19; refine (open_go _ _ _ _ HO.out hp0 (by omega)).mono ?_; rintro e w5 ⟨gr, g, c, rfl, hR, hg, hb⟩; have hxl := heap_lt HX.out; have HR := Lib.hid hR; have HX := Lib.hid ((hb.block _ (heap_lt HX.out)).trans HX.out); have HB := Lib.hid (bel HB.out hb); clear hb hR)
    | (go_at_call 16; refine (num_any _ _).mono ?_; rintro e w1 ⟨rfl, rfl⟩))
  have hgr : w.heap.size + 1 < gr := by omega
  refine drawn_wv (w := w5) ([rp gr, .agg (CS (headF a (lastTo a 16))), .agg (CS a), .bool true, .bool true, rp gr, .int .i64 0, .int .i64 0, .bool true, .bool true, .bool true, .bool true, .bool true, .bool true] : List Value) 1 (VS w a gr g c) (by kernel_rfl) (by kernel_rfl) (by kernel_rfl) (by kernel_rfl) (by decide) ?_ ?_ ?_
  · exact VS.below ⟨HB.out, HX.out, fun _ => HR.out, fun e => (by cases e)⟩ (Below.refl _ _).drew
  · intro i_ v_ hi a_ W t_ ht1 ht2 hs ho hS
    have hl := (List.getElem?_eq_some_iff.1 hi).1
    rcases (show i_ = 0 ∨ i_ = 1 ∨ i_ = 2 ∨ i_ = 3 ∨ i_ = 4 ∨ i_ = 5 ∨ i_ = 6 ∨ i_ = 7 ∨ i_ = 8 ∨ i_ = 9 ∨ i_ = 10 ∨ i_ = 11 ∨ i_ = 12 ∨ i_ = 13 by simp at hl; omega) with rfl | rfl | rfl | rfl | rfl | rfl | rfl | rfl | rfl | rfl | rfl | rfl | rfl | rfl
    · obtain rfl : (rp gr : Value) = v_ := Option.some.inj (show some (rp gr : Value) = some v_ from hi)
      clear hi hl
      have e6 : a_.tmps[6]? = some (rp gr) := (ho 6 (by kernel_rfl)).trans rfl
      refine ⟨_, rfl, fun KR hKR => ?_⟩
      rw [if_pos (show Region.wanted _ _ = true from rfl)]
      clear hs ho
      (go_simp; exact hKR _ hS)
    · obtain rfl : (.agg (CS (headF a (lastTo a 16))) : Value) = v_ := Option.some.inj (show some (.agg (CS (headF a (lastTo a 16))) : Value) = some v_ from hi)
      clear hi hl
      have e29 : a_.tmps[29]? = some (rp gr) := hs 0 (by kernel_rfl) _ rfl 29 rfl
      refine ⟨_, rfl, fun KR hKR => ?_⟩
      rw [if_pos (show Region.wanted _ _ = true from rfl)]
      clear hs ho
      (go_simp; (go_at_call 21; refine (take_go a HRt.out gr g 0 c _ (hS.2.2.1 (ht1 rfl))).mono ?_; rintro e w8 ⟨rfl, h1, h2, h3, h4⟩); exact hKR _ (VS.take hS hgr h1 h3 h4))
    · obtain rfl : (.agg (CS a) : Value) = v_ := Option.some.inj (show some (.agg (CS a) : Value) = some v_ from hi)
      clear hi hl
      have e3 : a_.tmps[3]? = some (.pointer (some ⟨w.heap.size + 1, 0, none⟩)) := (ho 3 (by kernel_rfl)).trans rfl
      refine ⟨_, rfl, fun KR hKR => ?_⟩
      rw [if_pos (show Region.wanted _ _ = true from rfl)]
      clear hs ho
      (refine wp_load_row 24 (.tmp 3) rfl _ (by simp [Act.eval, e3]) 24 _ (0, 0) _ hS.2.1 Try.underlying24 rfl (info24 _) ?_; exact hKR _ hS)
    · obtain rfl : (.bool true : Value) = v_ := Option.some.inj (show some (.bool true : Value) = some v_ from hi)
      clear hi hl
      have e30 : a_.tmps[30]? = some (.agg (CS (headF a (lastTo a 16)))) := hs 1 (by kernel_rfl) _ rfl 30 rfl
      have e31 : a_.tmps[31]? = some (.agg (CS a)) := hs 2 (by kernel_rfl) _ rfl 31 rfl
      refine ⟨_, rfl, fun KR hKR => ?_⟩
      rw [if_pos (show Region.wanted _ _ = true from rfl)]
      clear hs ho
      (have hq := HEQ.out; go_simp; exact hKR _ hS)
    · obtain rfl : (.bool true : Value) = v_ := Option.some.inj (show some (.bool true : Value) = some v_ from hi)
      clear hi hl
      have e32 : a_.tmps[32]? = some (.bool true) := hs 3 (by kernel_rfl) _ rfl 32 rfl
      refine ⟨_, rfl, fun KR hKR => ?_⟩
      rw [if_pos (show Region.wanted _ _ = true from rfl)]
      clear hs ho
      (go_simp; exact hKR _ hS)
    · obtain rfl : (rp gr : Value) = v_ := Option.some.inj (show some (rp gr : Value) = some v_ from hi)
      clear hi hl
      have e6 : a_.tmps[6]? = some (rp gr) := (ho 6 (by kernel_rfl)).trans rfl
      have e33 : a_.tmps[33]? = some (.bool true) := hs 4 (by kernel_rfl) _ rfl 33 rfl
      refine ⟨_, rfl, fun KR hKR => ?_⟩
      rw [if_pos (wanted_of (j := 4) (d := 33) rfl rfl e33)]
      clear e33
      clear hs ho
      (go_simp; exact hKR _ hS)
    · obtain rfl : (.int .i64 0 : Value) = v_ := Option.some.inj (show some (.int .i64 0 : Value) = some v_ from hi)
      clear hi hl
      have e34 : a_.tmps[34]? = some (rp gr) := hs 5 (by kernel_rfl) _ rfl 34 rfl
      have e33 : a_.tmps[33]? = some (.bool true) := hs 4 (by kernel_rfl) _ rfl 33 rfl
      refine ⟨_, rfl, fun KR hKR => ?_⟩
      rw [if_pos (wanted_of (j := 4) (d := 33) rfl rfl e33)]
      clear e33
      clear hs ho
      (go_simp; (obtain ⟨o, c', hR⟩ := hS.2.2.2 (ht2 4 (by kernel_rfl) (by kernel_rfl))); (go_at_call 32; refine (rdone gr g o c' _ hR).mono ?_; rintro e w8 ⟨rfl, rfl⟩); exact hKR _ hS)
    · obtain rfl : (.int .i64 0 : Value) = v_ := Option.some.inj (show some (.int .i64 0 : Value) = some v_ from hi)
      clear hi hl
      have e35 : a_.tmps[35]? = some (.int .i64 0) := hs 6 (by kernel_rfl) _ rfl 35 rfl
      have e33 : a_.tmps[33]? = some (.bool true) := hs 4 (by kernel_rfl) _ rfl 33 rfl
      refine ⟨_, rfl, fun KR hKR => ?_⟩
      rw [if_pos (wanted_of (j := 4) (d := 33) rfl rfl e33)]
      clear e33
      clear hs ho
      (go_simp; (go_at_call 16; refine (num_any _ _).mono ?_; rintro e w8 ⟨rfl, rfl⟩); exact hKR _ hS)
    · obtain rfl : (.bool true : Value) = v_ := Option.some.inj (show some (.bool true : Value) = some v_ from hi)
      clear hi hl
      have e36 : a_.tmps[36]? = some (.int .i64 0) := hs 7 (by kernel_rfl) _ rfl 36 rfl
      have e33 : a_.tmps[33]? = some (.bool true) := hs 4 (by kernel_rfl) _ rfl 33 rfl
      refine ⟨_, rfl, fun KR hKR => ?_⟩
      rw [if_pos (wanted_of (j := 4) (d := 33) rfl rfl e33)]
      clear e33
      clear hs ho
      (go_simp; exact hKR _ hS)
    · obtain rfl : (.bool true : Value) = v_ := Option.some.inj (show some (.bool true : Value) = some v_ from hi)
      clear hi hl
      have e33 : a_.tmps[33]? = some (.bool true) := hs 4 (by kernel_rfl) _ rfl 33 rfl
      have e37 : a_.tmps[37]? = some (.bool true) := hs 8 (by kernel_rfl) _ rfl 37 rfl
      refine ⟨_, rfl, fun KR hKR => ?_⟩
      rw [if_pos (show Region.wanted _ _ = true from rfl)]
      clear hs ho
      (go_simp; exact hKR _ hS)
    · obtain rfl : (.bool true : Value) = v_ := Option.some.inj (show some (.bool true : Value) = some v_ from hi)
      clear hi hl
      have e38 : a_.tmps[38]? = some (.bool true) := hs 9 (by kernel_rfl) _ rfl 38 rfl
      refine ⟨_, rfl, fun KR hKR => ?_⟩
      rw [if_pos (show Region.wanted _ _ = true from rfl)]
      clear hs ho
      (go_simp; exact hKR _ hS)
    · obtain rfl : (.bool true : Value) = v_ := Option.some.inj (show some (.bool true : Value) = some v_ from hi)
      clear hi hl
      have e39 : a_.tmps[39]? = some (.bool true) := hs 10 (by kernel_rfl) _ rfl 39 rfl
      refine ⟨_, rfl, fun KR hKR => ?_⟩
      rw [if_pos (wanted_of (j := 10) (d := 39) rfl rfl e39)]
      clear e39
      clear hs ho
      (go_simp; (go_at_call 11; refine (knows_any _).mono ?_; rintro e w8 ⟨rfl, hb⟩); exact hKR _ (hS.below hb))
    · obtain rfl : (.bool true : Value) = v_ := Option.some.inj (show some (.bool true : Value) = some v_ from hi)
      clear hi hl
      have e39 : a_.tmps[39]? = some (.bool true) := hs 10 (by kernel_rfl) _ rfl 39 rfl
      have e40 : a_.tmps[40]? = some (.bool true) := hs 11 (by kernel_rfl) _ rfl 40 rfl
      refine ⟨_, rfl, fun KR hKR => ?_⟩
      rw [if_pos (show Region.wanted _ _ = true from rfl)]
      clear hs ho
      (go_simp; exact hKR _ hS)
    · obtain rfl : (.bool true : Value) = v_ := Option.some.inj (show some (.bool true : Value) = some v_ from hi)
      clear hi hl
      have e41 : a_.tmps[41]? = some (.bool true) := hs 12 (by kernel_rfl) _ rfl 41 rfl
      refine ⟨_, rfl, fun KR hKR => ?_⟩
      rw [if_pos (show Region.wanted _ _ = true from rfl)]
      clear hs ho
      (go_simp; exact hKR _ hS)
  · intro vals_ W hv hS
    have v0 : vals_ 0 = rp gr := hv 0 _ rfl
    have v1 : vals_ 1 = .agg (CS (headF a (lastTo a 16))) := hv 1 _ rfl
    have v2 : vals_ 2 = .agg (CS a) := hv 2 _ rfl
    have v3 : vals_ 3 = .bool true := hv 3 _ rfl
    have v4 : vals_ 4 = .bool true := hv 4 _ rfl
    have v5 : vals_ 5 = rp gr := hv 5 _ rfl
    have v6 : vals_ 6 = .int .i64 0 := hv 6 _ rfl
    have v7 : vals_ 7 = .int .i64 0 := hv 7 _ rfl
    have v8 : vals_ 8 = .bool true := hv 8 _ rfl
    have v9 : vals_ 9 = .bool true := hv 9 _ rfl
    have v10 : vals_ 10 = .bool true := hv 10 _ rfl
    have v11 : vals_ 11 = .bool true := hv 11 _ rfl
    have v12 : vals_ 12 = .bool true := hv 12 _ rfl
    have v13 : vals_ 13 = .bool true := hv 13 _ rfl
    simp only [List.length_cons, List.length_nil, Nat.zero_add, Nat.reduceAdd, List.size_toArray, slots, if_true, dstOf, List.getElem?_toArray, List.getElem?_cons_zero, List.getElem?_cons_succ, Option.bind_some, Act.put, List.setIfInBounds_toArray, List.set_cons_zero, List.set_cons_succ, v0, v1, v2, v3, v4, v5, v6, v7, v8, v9, v10, v11, v12, v13]
    clear hv v0 v1 v2 v3 v4 v5 v6 v7 v8 v9 v10 v11 v12 v13
    change wpAny _ _ _ _ 0 _ _ _
    refine wpAny_done (by kernel_rfl) ?_ _
    go_wp2
    go_ret
    exact ⟨rfl, hS.1⟩
theorem vback_any (a : Nat → Int) (w : World) : Calls Try.prog 6 #[.agg (CS a)] w fun e w' => e = .returned (.bool true) ∧ Below w.heap.size w w' := by
  cases h : rightB a with
  | false => exact vback_no a w h
  | true => exact vback_yes a w h
end Go.Proofs.Ytidfmpiliinmeaa
