/- queue.Merge: the walk. -/
import Derived.Test.YtndfoohdoadkfaaQL
set_option linter.unusedVariables false
set_option linter.unusedSimpArgs false
namespace Go.Proofs.Ytndfoohdoadkfaa
open Go.RowKit
attribute [local go_sem] eqS_is
def MergePost (w : World) (out : List St) (e : Ending) (w' : World) : Prop := ∃ v, e = .returned v ∧ w'.ownsRow w.heap.size 34 2 v out.length (cellsS out) ∧ Below w.heap.size w w'
set_option maxRecDepth 10000 in
set_option maxHeartbeats 0 in
theorem merge_walk (v0 : Value) (ls : List (List St)) (w : World) (h : Rows2 w v0 ls) (htot : ls.flatten.length ≤ 1000000) (hN : ls.length ≤ 1000000) :
    Calls Try.prog 19 #[v0] w (MergePost w (mergeL ls)) := by
  obtain ⟨A0, c0, rfl, hc0, hrows⟩ := h
  have HRW := Lib.hid hrows
  have HT := Lib.hid htot
  obtain ⟨N, hNe⟩ : ∃ N, N = ls.length := ⟨_, rfl⟩
  have HNe := Lib.hid hNe
  rw [← hNe] at hN hc0 ⊢
  clear hrows htot hNe
  obtain ⟨R, hRe⟩ : ∃ R, R = mergeL ls := ⟨_, rfl⟩
  rw [← hRe]
  have HRe := Lib.hid hRe
  clear hRe
  go_enter Try.func19, Try.ntmps19
  go_wp2_with (go_at_call 9; refine (new_any w.heap.size _ [] _ (own_none _ _) (by simp)).mono ?_; rintro e w1 ⟨gq, b, v1, rfl, hQ, hgq, hb0, hB⟩; have HQ := Lib.hid hQ; have HB := Lib.hid hB; have hqb := hQ.ne; clear hQ hB)
  go_loopw [14] (fun t wr => ∃ (i : Nat) (v : Value), t = .int .i64 i ∧ i ≤ N ∧ Hid (QV wr w.heap.size gq b v (itemsTo ls i 0)) ∧ Hid (Below w.heap.size w wr)) (fun t _ => N - (intOf t).toNat)
  case atStart => exact ⟨0, v1, rfl, by omega, Lib.hid (by simpa [itemsTo, initL] using HQ.out), HB⟩
  case round =>
    obtain ⟨i, v, rfl, hi, HQ, HB⟩ := hrel
    by_cases q : i < N
    · obtain ⟨g0, o0, rfl, hr⟩ := HRW.out (by rw [← HNe.out]; omega)
      obtain ⟨ss, hss⟩ : ∃ ss, ls[i]? = some ss := ⟨_, List.getElem?_eq_getElem (by rw [← HNe.out]; exact q)⟩
      obtain ⟨u, hu, hR⟩ := hr i ss hss
      obtain ⟨A5, c5, rfl, hc5, hst⟩ := hR
      have cu := cell_below HB.out hu
      have HSS := Lib.hid hss
      have HST := Lib.hid hst
      obtain ⟨M, hM⟩ : ∃ M, M = ss.length := ⟨_, rfl⟩
      have HM := Lib.hid hM
      rw [← hM] at cu hc5
      clear hr hss hst hM hu
      have hMb : M ≤ 1000000 := by
        have h1 := items_len ls 1000000 HT.out i M (by rw [← HNe.out]; exact q)
        have h2 : (ls.getD i []) = ss := by rw [List.getD_eq_getElem?_getD, HSS.out]; rfl
        unfold itemsTo at h1
        rw [h2, List.length_map, List.length_append, List.length_take, HM.out] at h1
        have := HM.out
        omega
      go_wp2
      go_loopw [20] (fun t W2 => ∃ (j : Nat) (v : Value), t = .int .i64 j ∧ j ≤ M ∧ Hid (QV W2 w.heap.size gq b v (itemsTo ls i j)) ∧ Hid (Below w.heap.size w W2)) (fun t _ => M - (intOf t).toNat)
      case atStart => exact ⟨0, v, rfl, by omega, HQ, HB⟩
      case round =>
        clear HQ HB cu
        obtain ⟨j, v, rfl, hj, HQ, HB⟩ := hrel
        by_cases q2 : j < M
        · obtain ⟨g1, o1, rfl, hr⟩ := HST.out (by rw [← HM.out]; omega)
          obtain ⟨s, hs⟩ : ∃ s, ss[j]? = some s := ⟨_, List.getElem?_eq_getElem (by rw [← HM.out]; exact q2)⟩
          have HRG := Lib.hid (range_below HB.out (hr j s hs))
          have HSJ := Lib.hid hs
          clear hr hs
          go_wp2_with (first
            | (refine wpList_load_mid rfl 34 (.tmp 22) rfl g1 (o1 + j * 2) rfl (SS s).toList _ HRG.out Try.underlying34 rfl (info34 s) ?_)
            | (refine wpList_store_whole rfl 34 (.tmp 7) (.tmp 23) rfl ?g_1 (SS s) #[.int .i64 0, .int .i64 0] 34 ?ha_1 ?hb_1 ?hc_1 ?hd_1 ?he_1 ?hf_1 ?_; (case ha_1 => rfl); (case hb_1 => rfl); (case hc_1 => exact heap_alloc_new _ _); (case hd_1 => rfl); (case he_1 => exact info34 s); (case hf_1 => kernel_rfl); intro w6 hnew hsz hfar hbel; have HX := Lib.hid hnew; have hb6 := hbel _ _ (Nat.le_refl _) (below_alloc (Below.refl _ _) _); have HQ6 := Lib.hid (HQ.out.below hb6); have HB6 := Lib.hid (bel HB.out hb6); clear hnew hsz hfar hbel hb6))
          obtain ⟨g7, hg7⟩ : ∃ g7, g7 = wr.heap.size := ⟨_, rfl⟩
          have hbq := heap_lt HQ.out.pv.blk
          have hgqq := heap_lt HQ.out.q
          have h7b : g7 ≠ b := by omega
          have hgqb := HQ.out.ne
          have hn7 : v.ownBlock ≠ some g7 := fun e => by have := (own_lt HQ.out.pv.row _ e).2; omega
          have hngq := HQ.out.own_ne
          have hnb := HQ.out.pv.own_ne
          rw [← hg7] at HX ⊢
          obtain ⟨xs, hxs⟩ : ∃ xs, xs = itemsTo ls i j := ⟨_, rfl⟩
          have HXS := Lib.hid hxs
          have hl : xs.length ≤ 2000000 := by
            have := items_len ls 1000000 HT.out i j (by rw [← HNe.out]; exact q)
            rw [← hxs] at this
            omega
          rw [← hxs] at HQ6
          have hbase := HB6.out.size
          have hbl6 := heap_lt HQ6.out.pv.blk
          clear hxs HQ HB
          refine drawn_s3 (w := w6) ([some (qp gq), some (qp gq), some (qp gq), some (qp b), some (qp gq), some (qp gq), some (qp gq), some (qp b), some (qp b), some (v), some (.agg (SS s)), some (.agg (IS (toI s))), none, none, some (qp b), none] : List (Option Value)) 12 13 15 (MS2 w.heap.size gq b g7 v xs s w6) (by kernel_rfl) (by kernel_rfl) (by kernel_rfl) (by kernel_rfl) (by decide) (by decide) (by decide) (by kernel_rfl) (by kernel_rfl) (by decide) (by decide) (by decide) ?_ ?_ ?_ ?_ ?_ ?_
          · intro i_ v_ hi
            have hl := (List.getElem?_eq_some_iff.1 hi).1
            rcases (show i_ = 0 ∨ i_ = 1 ∨ i_ = 2 ∨ i_ = 3 ∨ i_ = 4 ∨ i_ = 5 ∨ i_ = 6 ∨ i_ = 7 ∨ i_ = 8 ∨ i_ = 9 ∨ i_ = 10 ∨ i_ = 11 ∨ i_ = 12 ∨ i_ = 13 ∨ i_ = 14 ∨ i_ = 15 by simp at hl; omega) with rfl | rfl | rfl | rfl | rfl | rfl | rfl | rfl | rfl | rfl | rfl | rfl | rfl | rfl | rfl | rfl
            · decide
            · decide
            · decide
            · decide
            · decide
            · decide
            · decide
            · decide
            · decide
            · decide
            · decide
            · decide
            · exact absurd (show some (none : Option Value) = some (some v_) from hi) (by simp)
            · exact absurd (show some (none : Option Value) = some (some v_) from hi) (by simp)
            · decide
            · exact absurd (show some (none : Option Value) = some (some v_) from hi) (by simp)
          · intro i_ hi
            have hl := (List.getElem?_eq_some_iff.1 hi).1
            rcases (show i_ = 0 ∨ i_ = 1 ∨ i_ = 2 ∨ i_ = 3 ∨ i_ = 4 ∨ i_ = 5 ∨ i_ = 6 ∨ i_ = 7 ∨ i_ = 8 ∨ i_ = 9 ∨ i_ = 10 ∨ i_ = 11 ∨ i_ = 12 ∨ i_ = 13 ∨ i_ = 14 ∨ i_ = 15 by simp at hl; omega) with rfl | rfl | rfl | rfl | rfl | rfl | rfl | rfl | rfl | rfl | rfl | rfl | rfl | rfl | rfl | rfl
            · exact absurd (show some (some (qp gq : Value)) = some none from hi) (by simp)
            · exact absurd (show some (some (qp gq : Value)) = some none from hi) (by simp)
            · exact absurd (show some (some (qp gq : Value)) = some none from hi) (by simp)
            · exact absurd (show some (some (qp b : Value)) = some none from hi) (by simp)
            · exact absurd (show some (some (qp gq : Value)) = some none from hi) (by simp)
            · exact absurd (show some (some (qp gq : Value)) = some none from hi) (by simp)
            · exact absurd (show some (some (qp gq : Value)) = some none from hi) (by simp)
            · exact absurd (show some (some (qp b : Value)) = some none from hi) (by simp)
            · exact absurd (show some (some (qp b : Value)) = some none from hi) (by simp)
            · exact absurd (show some (some (v : Value)) = some none from hi) (by simp)
            · exact absurd (show some (some (.agg (SS s) : Value)) = some none from hi) (by simp)
            · exact absurd (show some (some (.agg (IS (toI s)) : Value)) = some none from hi) (by simp)
            · decide
            · decide
            · exact absurd (show some (some (qp b : Value)) = some none from hi) (by simp)
            · decide
          · intro u1 u2
            exact ⟨((Below.refl _ _).drew.block gq (heap_lt HQ6.out.q)).trans HQ6.out.q, ((Below.refl _ _).drew.block g7 (heap_lt HX.out)).trans HX.out, ((Below.refl _ _).drew.block b (heap_lt HQ6.out.pv.blk)).trans HQ6.out.pv.blk, own_drew HQ6.out.pv.row, Pq.of_below (Below.refl _ _).drew hbase⟩
          · intro i_ v_ hi a_ W k_ u1_ u2_ hk1 hk2 hk3 hs ho hS
            have hl := (List.getElem?_eq_some_iff.1 hi).1
            rcases (show i_ = 0 ∨ i_ = 1 ∨ i_ = 2 ∨ i_ = 3 ∨ i_ = 4 ∨ i_ = 5 ∨ i_ = 6 ∨ i_ = 7 ∨ i_ = 8 ∨ i_ = 9 ∨ i_ = 10 ∨ i_ = 11 ∨ i_ = 12 ∨ i_ = 13 ∨ i_ = 14 ∨ i_ = 15 by simp at hl; omega) with rfl | rfl | rfl | rfl | rfl | rfl | rfl | rfl | rfl | rfl | rfl | rfl | rfl | rfl | rfl | rfl
            · obtain rfl : (qp gq : Value) = v_ := Option.some.inj (Option.some.inj (show some (some (qp gq : Value)) = some (some v_) from hi))
              clear hi hl
              have e3 : a_.tmps[3]? = some (qp gq) := (ho 3 (by kernel_rfl)).trans rfl
              refine ⟨_, rfl, fun KR hKR => ?_⟩
              rw [if_pos (show Region.wanted _ _ = true from rfl)]
              clear hs ho
              (go_simp; exact hKR)
            · obtain rfl : (qp gq : Value) = v_ := Option.some.inj (Option.some.inj (show some (some (qp gq : Value)) = some (some v_) from hi))
              clear hi hl
              have e24 : a_.tmps[24]? = some (qp gq) := hs 0 (by kernel_rfl) _ rfl 24 rfl
              refine ⟨_, rfl, fun KR hKR => ?_⟩
              rw [if_pos (show Region.wanted _ _ = true from rfl)]
              clear hs ho
              (go_simp; exact hKR)
            · obtain rfl : (qp gq : Value) = v_ := Option.some.inj (Option.some.inj (show some (some (qp gq : Value)) = some (some v_) from hi))
              clear hi hl
              have e25 : a_.tmps[25]? = some (qp gq) := hs 1 (by kernel_rfl) _ rfl 25 rfl
              refine ⟨_, rfl, fun KR hKR => ?_⟩
              rw [if_pos (show Region.wanted _ _ = true from rfl)]
              clear hs ho
              (go_simp; exact hKR)
            · obtain rfl : (qp b : Value) = v_ := Option.some.inj (Option.some.inj (show some (some (qp b : Value)) = some (some v_) from hi))
              clear hi hl
              have e26 : a_.tmps[26]? = some (qp gq) := hs 2 (by kernel_rfl) _ rfl 26 rfl
              refine ⟨_, rfl, fun KR hKR => ?_⟩
              rw [if_pos (show Region.wanted _ _ = true from rfl)]
              clear hs ho
              (have c0 : W.cell? ⟨gq, 0, none⟩ = some (qp b) := cell_of_heap hS.1 (j := 0) rfl; go_simp; exact hKR)
            · obtain rfl : (qp gq : Value) = v_ := Option.some.inj (Option.some.inj (show some (some (qp gq : Value)) = some (some v_) from hi))
              clear hi hl
              have e3 : a_.tmps[3]? = some (qp gq) := (ho 3 (by kernel_rfl)).trans rfl
              refine ⟨_, rfl, fun KR hKR => ?_⟩
              rw [if_pos (show Region.wanted _ _ = true from rfl)]
              clear hs ho
              (go_simp; exact hKR)
            · obtain rfl : (qp gq : Value) = v_ := Option.some.inj (Option.some.inj (show some (some (qp gq : Value)) = some (some v_) from hi))
              clear hi hl
              have e28 : a_.tmps[28]? = some (qp gq) := hs 4 (by kernel_rfl) _ rfl 28 rfl
              refine ⟨_, rfl, fun KR hKR => ?_⟩
              rw [if_pos (show Region.wanted _ _ = true from rfl)]
              clear hs ho
              (go_simp; exact hKR)
            · obtain rfl : (qp gq : Value) = v_ := Option.some.inj (Option.some.inj (show some (some (qp gq : Value)) = some (some v_) from hi))
              clear hi hl
              have e29 : a_.tmps[29]? = some (qp gq) := hs 5 (by kernel_rfl) _ rfl 29 rfl
              refine ⟨_, rfl, fun KR hKR => ?_⟩
              rw [if_pos (show Region.wanted _ _ = true from rfl)]
              clear hs ho
              (go_simp; exact hKR)
            · obtain rfl : (qp b : Value) = v_ := Option.some.inj (Option.some.inj (show some (some (qp b : Value)) = some (some v_) from hi))
              clear hi hl
              have e30 : a_.tmps[30]? = some (qp gq) := hs 6 (by kernel_rfl) _ rfl 30 rfl
              refine ⟨_, rfl, fun KR hKR => ?_⟩
              rw [if_pos (show Region.wanted _ _ = true from rfl)]
              clear hs ho
              (have c0 : W.cell? ⟨gq, 0, none⟩ = some (qp b) := cell_of_heap hS.1 (j := 0) rfl; go_simp; exact hKR)
            · obtain rfl : (qp b : Value) = v_ := Option.some.inj (Option.some.inj (show some (some (qp b : Value)) = some (some v_) from hi))
              clear hi hl
              have e31 : a_.tmps[31]? = some (qp b) := hs 7 (by kernel_rfl) _ rfl 31 rfl
              refine ⟨_, rfl, fun KR hKR => ?_⟩
              rw [if_pos (show Region.wanted _ _ = true from rfl)]
              clear hs ho
              (go_simp; exact hKR)
            · obtain rfl : (v : Value) = v_ := Option.some.inj (Option.some.inj (show some (some (v : Value)) = some (some v_) from hi))
              clear hi hl
              have e32 : a_.tmps[32]? = some (qp b) := hs 8 (by kernel_rfl) _ rfl 32 rfl
              refine ⟨_, rfl, fun KR hKR => ?_⟩
              rw [if_pos (show Region.wanted _ _ = true from rfl)]
              clear hs ho
              (have c0 := cell_of_heap (hS.2.2.blk (by have := hk2 (by kernel_rfl); omega)) (j := 0) rfl; go_simp; exact hKR)
            · obtain rfl : (.agg (SS s) : Value) = v_ := Option.some.inj (Option.some.inj (show some (some (.agg (SS s) : Value)) = some (some v_) from hi))
              clear hi hl
              have e7 : a_.tmps[7]? = some (.pointer (some ⟨g7, 0, none⟩)) := (ho 7 (by kernel_rfl)).trans rfl
              refine ⟨_, rfl, fun KR hKR => ?_⟩
              rw [if_pos (show Region.wanted _ _ = true from rfl)]
              clear hs ho
              (refine wp_load_row 34 (.tmp 7) rfl _ (by simp [Act.eval, e7]) 34 _ (0, 0) _ hS.2.1 Try.underlying34 rfl (info34 s) ?_; exact hKR)
            · obtain rfl : (.agg (IS (toI s)) : Value) = v_ := Option.some.inj (Option.some.inj (show some (some (.agg (IS (toI s)) : Value)) = some (some v_) from hi))
              clear hi hl
              have e34 : a_.tmps[34]? = some (.agg (SS s)) := hs 10 (by kernel_rfl) _ rfl 34 rfl
              refine ⟨_, rfl, fun KR hKR => ?_⟩
              rw [if_pos (show Region.wanted _ _ = true from rfl)]
              clear hs ho
              (refine wp_of_run (exec_build (l := [(0, .tmp 34)]) rfl (by simp only [List.map_cons, List.map_nil, Act.eval, Array.getD_eq_getD_getElem?, e34, Option.getD_some]; exact bd40 s W)) ?_; exact hKR)
            · exact absurd (show some (none : Option Value) = some (some v_) from hi) (by simp)
            · exact absurd (show some (none : Option Value) = some (some v_) from hi) (by simp)
            · obtain rfl : (qp b : Value) = v_ := Option.some.inj (Option.some.inj (show some (some (qp b : Value)) = some (some v_) from hi))
              clear hi hl
              have e27 : a_.tmps[27]? = some (qp b) := hs 3 (by kernel_rfl) _ rfl 27 rfl
              refine ⟨_, rfl, fun KR hKR => ?_⟩
              rw [if_pos (show Region.wanted _ _ = true from rfl)]
              clear hs ho
              (go_simp; exact hKR)
            · exact absurd (show some (none : Option Value) = some (some v_) from hi) (by simp)
          · intro a_ W k_ u1_ u2_ i_ hc hs h1 h2 ho hS
            rcases hc with ⟨rfl, rfl⟩ | ⟨rfl, rfl⟩ | ⟨rfl, rfl⟩
            · have e35 : a_.tmps[35]? = some (.agg (IS (toI s))) := hs 11 (by kernel_rfl) _ rfl 35 rfl
              refine ⟨_, rfl, fun KR hKR => ?_⟩
              rw [if_pos (show Region.wanted _ _ = true from rfl)]
              clear hs ho h1 h2
              obtain ⟨p1, p2, q1, q2, q4⟩ := hS
              refine wp_of_run (exec_buildSlice (l := [(0, .tmp 35)]) rfl (by simp only [List.map_cons, List.map_nil, Act.eval, Array.getD_eq_getD_getElem?, e35, Option.getD_some]; exact bs66 (toI s) W)) ?_
              have hb := below_alloc (Below.refl W.heap.size W) (.cells (IS (toI s)) 40)
              exact hKR _ _ ⟨(hb.block _ (heap_lt p1)).trans p1, (hb.block _ (heap_lt p2)).trans p2, (hb.block _ (heap_lt q1)).trans q1, pw_own_below q2 hb, q4.trans (Pq.of_below hb (Nat.le_trans hbase q4.size)), _, rfl, heap_alloc_new W _⟩
            · have e33 : a_.tmps[33]? = some (v) := hs 9 (by kernel_rfl) _ rfl 33 rfl
              have e36 : a_.tmps[36]? = some u1_ := h1 (by decide) 36 (by kernel_rfl) rfl
              refine ⟨_, rfl, fun KR hKR => ?_⟩
              rw [if_pos (show Region.wanted _ _ = true from rfl)]
              clear hs ho h1 h2
              obtain ⟨p1, p2, q1, q2, q4, g5, rfl, q6⟩ := hS
              obtain ⟨v', W', r1, r2, r3, r4⟩ := app_one q2 q6 (Nat.le_trans hbase q4.size) hl 66
              refine wp_append_of (.tmp 33) (.tmp 36) rfl rfl (by simp [Act.eval, e33]) (by simp [Act.eval, e36]) r1 ?_
              exact hKR _ _ ⟨(r3.block gq (heap_lt p1) (fun e => hngq e.symm)).trans p1, (r3.block g7 (heap_lt p2) (fun e => hn7 e.symm)).trans p2, (r3.block b (heap_lt q1) (fun e => hnb e.symm)).trans q1, r2, q4.grow r3 r4 (fun k hk => (own_lt q2 k hk).1) (Nat.le_trans hbase q4.size)⟩
            · have e38 : a_.tmps[38]? = some (qp b) := hs 14 (by kernel_rfl) _ rfl 38 rfl
              have e37 : a_.tmps[37]? = some u2_ := h2 (by decide) 37 (by kernel_rfl) rfl
              refine ⟨_, rfl, fun KR hKR => ?_⟩
              rw [if_pos (show Region.wanted _ _ = true from rfl)]
              clear hs ho h1 h2
              obtain ⟨p1, p2, q1, q2, q3⟩ := hS
              have c0 := cell_of_heap q1 (j := 0) rfl
              have f0 := frozen_of_heap q1 (j := 0)
              have hlen : (xs ++ [toI s]).length = xs.length + 1 := by simp
              rw [hlen] at q2
              obtain ⟨A8, c8, rfl⟩ := own_slice q2
              go_simp
              refine hKR undef _ ⟨set_ne hgqb p1, set_ne h7b p2, PV.put (v := v) q1 (by rw [hlen]; exact q2) ?_, q3.put _⟩
              intro e
              rcases q3.own b e with q | q
              · exact hnb q
              · omega
          · intro vals_ W hv hS
            have v0 : vals_ 0 = qp gq := hv 0 _ rfl
            have v1 : vals_ 1 = qp gq := hv 1 _ rfl
            have v2 : vals_ 2 = qp gq := hv 2 _ rfl
            have v3 : vals_ 3 = qp b := hv 3 _ rfl
            have v4 : vals_ 4 = qp gq := hv 4 _ rfl
            have v5 : vals_ 5 = qp gq := hv 5 _ rfl
            have v6 : vals_ 6 = qp gq := hv 6 _ rfl
            have v7 : vals_ 7 = qp b := hv 7 _ rfl
            have v8 : vals_ 8 = qp b := hv 8 _ rfl
            have v9 : vals_ 9 = v := hv 9 _ rfl
            have v10 : vals_ 10 = .agg (SS s) := hv 10 _ rfl
            have v11 : vals_ 11 = .agg (IS (toI s)) := hv 11 _ rfl
            have v14 : vals_ 14 = qp b := hv 14 _ rfl
            obtain ⟨u2_, hu2⟩ : ∃ u, u = vals_ 13 := ⟨_, rfl⟩
            obtain ⟨u1_, hu1⟩ : ∃ u, u = vals_ 12 := ⟨_, rfl⟩
            rw [← hu1, ← hu2] at hS
            simp only [List.length_cons, List.length_nil, Nat.zero_add, Nat.reduceAdd, List.size_toArray, slots, if_true, dstOf, List.getElem?_toArray, List.getElem?_cons_zero, List.getElem?_cons_succ, Option.bind_some, Act.put, List.setIfInBounds_toArray, List.set_cons_zero, List.set_cons_succ, ← hu1, ← hu2, v0, v1, v2, v3, v4, v5, v6, v7, v8, v9, v10, v11, v14]
            clear hv hu1 hu2 v0 v1 v2 v3 v4 v5 v6 v7 v8 v9 v10 v11 v14
            change wpAny _ _ _ _ 0 _ _ _
            refine wpAny_done (by kernel_rfl) ?_ _
            obtain ⟨p1, p2, p3, p4⟩ := hS
            have HQ7 := Lib.hid (show QV W w.heap.size gq b u2_ (itemsTo ls i (j + 1)) from ⟨p1, by rw [items_next ls i j s (by rw [List.getD_eq_getElem?_getD, HSS.out]; exact HSJ.out), ← HXS.out]; exact p3⟩)
            have HB7 := Lib.hid (p4.bel _ _ (Nat.le_refl _) hb0 HB6.out)
            clear p1 p2 p3 p4
            go_wp2
            go_roundw
            case rel => exact ⟨j + 1, u2_, by go_num, by omega, HQ7, HB7⟩
            case measure =>
              simp [intOf]
              omega
        · obtain rfl : j = M := by omega
          have HQ7 := Lib.hid (show QV wr w.heap.size gq b v (itemsTo ls (i + 1) 0) from by
            have h1 := items_row ls i (by rw [← HNe.out]; exact q)
            have h2 : (ls.getD i []) = ss := by rw [List.getD_eq_getElem?_getD, HSS.out]; rfl
            rw [h2, ← HM.out] at h1
            rw [← h1]
            exact HQ.out)
          go_wp2
          go_roundw
          case rel => exact ⟨i + 1, v, by go_num, by omega, HQ7, HB⟩
          case measure =>
            simp [intOf]
            omega
    · obtain rfl : i = N := by omega
      obtain ⟨xs, hxs⟩ : ∃ xs, xs = ls.flatten.map toI := ⟨_, rfl⟩
      have hq0 := HQ.out
      rw [show itemsTo ls i 0 = xs from by rw [HNe.out, items_all, hxs]] at hq0
      have hxl : xs.length = ls.flatten.length := by rw [hxs, List.length_map]
      have hx2 : xs.length ≤ 1000000 := by have := HT.out; omega
      have HRR := Lib.hid (show R = mgL xs.length (initL (xs.length / 2) xs) [] from by rw [HRe.out, mergeL, hxl, hxs, List.length_map])
      have HQ0 := Lib.hid hq0
      have c1 : wr.cell? ⟨gq, 0, none⟩ = some (qp b) := cell_of_heap hq0.q (j := 0) rfl
      clear hq0 hxs hxl HQ HRe HRW
      go_wp2_with (go_at_call 28; refine (init_any w.heap.size b _ xs _ HQ0.out.pv HB.out.size (by omega)).mono ?_; rintro e w2 ⟨rfl, hp2, hq2⟩; have HQ := Lib.hid (HQ0.out.step hp2 hq2); have HB := Lib.hid (hq2.bel _ _ (Nat.le_refl _) hb0 HB.out); clear hp2 hq2)
      go_loopw [8] (fun o wr => ∃ (v : Value) (ys : List It) (out : List St), Hid (wr.ownsRow w.heap.size 34 2 o out.length (cellsS out)) ∧ out.length + ys.length ≤ 1000000 ∧ Hid (QV wr w.heap.size gq b v ys) ∧ Hid (R = mgL ys.length ys out) ∧ Hid (Below w.heap.size w wr)) (fun _ wr => pileN wr b)
      case atStart => exact ⟨_, _, [], Lib.hid ⟨rfl, .inl ⟨rfl, rfl⟩⟩, by rw [initL_len]; simpa using hx2, HQ, Lib.hid (by rw [initL_len]; exact HRR.out), HB⟩
      case round =>
        clear HQ HB HQ0 HRR c1
        obtain ⟨v, ys, out, HO, hno, HQ, HR, HB⟩ := hrel
        obtain ⟨A8, c8, rfl⟩ := own_slice HO.out
        obtain ⟨L, hL⟩ : ∃ L, L = out.length := ⟨_, rfl⟩
        have HL := Lib.hid hL
        rw [← hL] at HO hno ⊢
        clear hL
        obtain ⟨n, hn⟩ : ∃ n, n = ys.length := ⟨_, rfl⟩
        have HN := Lib.hid hn
        rw [← hn] at hno HR
        clear hn
        cases n with
        | zero =>
          go_wp2_with (go_at_call 16; refine (q_len _ _ _ _ _ _ HQ.out).mono ?_; rintro e w3 ⟨rfl, rfl⟩; rw [← HN.out])
          go_ret
          have hf := HR.out
          rw [mgL] at hf
          rw [hf]
          exact ⟨_, rfl, by rw [← HL.out]; exact HO.out, HB.out⟩
        | succ n =>
          have hp := pileN_is HQ.out
          have HPN := Lib.hid hp
          obtain ⟨x, hx⟩ : ∃ x, x = at_ ys 0 := ⟨_, rfl⟩
          have HX0 := Lib.hid hx
          clear hp hx
          have hgt : decide ((0 : Int) < ((n + 1 : Nat) : Int)) = true := decide_eq_true (by omega)
          go_wp2_with (first
            | (go_at_call 16; refine (q_len _ _ _ _ _ _ HQ.out).mono ?_; rintro e w3 ⟨rfl, rfl⟩; rw [← HN.out])
            | (go_at_call 12; refine (q_pop w.heap.size gq b v ys _ HQ.out HB.out.size (by rw [← HN.out]; omega) (by rw [← HN.out]; omega)).mono ?_; rintro e w4 ⟨rfl, v4, hq4, hp4⟩; rw [← HX0.out]; have HO4 := Lib.hid (own_far HO.out HQ.out.pv hp4); have HQ4 := Lib.hid hq4; have HB4 := Lib.hid (hp4.bel _ _ (Nat.le_refl _) hb0 HB.out); clear hq4 hp4)
            | (refine wpList_store_whole rfl 40 (.tmp 9) (.tmp 53) rfl w4.heap.size (IS x) #[.int .i64 0, .int .i64 0, .int .i64 0] 40 rfl rfl (heap_alloc_new _ _) rfl (info40 x) (by kernel_rfl) ?_))
          intro w6 hnew hsz hfar hbel
          have HX := Lib.hid hnew
          have hb6 := hbel _ _ (Nat.le_refl _) (below_alloc (Below.refl _ _) _)
          have HQ6 := Lib.hid (HQ4.out.below hb6)
          have HO6 := Lib.hid (pw_own_below HO4.out hb6)
          have HB6 := Lib.hid (bel HB4.out hb6)
          obtain ⟨g9, hg9⟩ : ∃ g9, g9 = w4.heap.size := ⟨_, rfl⟩
          rw [← hg9] at HX ⊢
          clear hg9 hnew hsz hfar hbel hb6 HQ HO HB HQ4 HO4 HB4
          have hf := HR.out
          rw [mgL, ← HX0.out] at hf
          have HR2 := Lib.hid hf
          have HPL := Lib.hid (show (popL ys).length = n from by rw [popL_len, ← HN.out]; rfl)
          clear hf HR
          cases L with
          | zero =>
            have hout : out = [] := List.eq_nil_of_length_eq_zero HL.out.symm
            have hf := HR2.out
            rw [hout] at hf
            rw [show (if ([] : List St).getLast? = some (stOf x) then ([] : List St) else [] ++ [stOf x]) = [] ++ [stOf x] from if_neg (by simp)] at hf
            have HR3 := Lib.hid (show R = mgL n (popL ys) (out ++ [stOf x]) from by rw [hout]; exact hf)
            clear hf hout
            go_wp2
            refine drawn_st (w := w6) ([Lf.v (.slice A8 0 c8), Lf.v (.int .i64 0), Lf.v (.bool true), Lf.v (.bool true), Lf.v (undef), Lf.v (undef), Lf.v (undef), Lf.v (undef), Lf.v (undef), Lf.v (undef), Lf.v (undef), Lf.v (undef), Lf.v (undef), Lf.v (.bool true)] : List Lf) (by kernel_rfl) (by kernel_rfl) (by kernel_rfl) (by kernel_rfl) ?_ ?_ ?_ ?_
            · intro i_ v_ hi a_ W hs ho hB
              have hl := (List.getElem?_eq_some_iff.1 hi).1
              rcases (show i_ = 0 ∨ i_ = 1 ∨ i_ = 2 ∨ i_ = 3 ∨ i_ = 4 ∨ i_ = 5 ∨ i_ = 6 ∨ i_ = 7 ∨ i_ = 8 ∨ i_ = 9 ∨ i_ = 10 ∨ i_ = 11 ∨ i_ = 12 ∨ i_ = 13 by simp at hl; omega) with rfl | rfl | rfl | rfl | rfl | rfl | rfl | rfl | rfl | rfl | rfl | rfl | rfl | rfl
              · obtain rfl : (.slice A8 0 c8) = v_ := Lf.v.inj (Option.some.inj (show some (Lf.v (.slice A8 0 c8)) = some (Lf.v v_) from hi))
                clear hi hl
                have e8 : a_.tmps[8]? = some (.slice A8 0 c8) := (ho 8 (by kernel_rfl)).trans rfl
                refine ⟨_, rfl, fun KR hKR => ?_⟩
                rw [if_pos (show Region.wanted _ _ = true from rfl)]
                clear hs ho
                go_simp
                exact hKR _ (Below.refl _ _)
              · obtain rfl : (.int .i64 0) = v_ := Lf.v.inj (Option.some.inj (show some (Lf.v (.int .i64 0)) = some (Lf.v v_) from hi))
                clear hi hl
                have e55 : a_.tmps[55]? = some (.slice A8 0 c8) := hs 0 (by kernel_rfl) _ rfl 55 rfl
                refine ⟨_, rfl, fun KR hKR => ?_⟩
                rw [if_pos (show Region.wanted _ _ = true from rfl)]
                clear hs ho
                go_simp
                exact hKR _ (Below.refl _ _)
              · obtain rfl : (.bool true) = v_ := Lf.v.inj (Option.some.inj (show some (Lf.v (.bool true)) = some (Lf.v v_) from hi))
                clear hi hl
                have e56 : a_.tmps[56]? = some (.int .i64 0) := hs 1 (by kernel_rfl) _ rfl 56 rfl
                refine ⟨_, rfl, fun KR hKR => ?_⟩
                rw [if_pos (show Region.wanted _ _ = true from rfl)]
                clear hs ho
                go_simp
                exact hKR _ (Below.refl _ _)
              · obtain rfl : (.bool true) = v_ := Lf.v.inj (Option.some.inj (show some (Lf.v (.bool true)) = some (Lf.v v_) from hi))
                clear hi hl
                have e57 : a_.tmps[57]? = some (.bool true) := hs 2 (by kernel_rfl) _ rfl 57 rfl
                refine ⟨_, rfl, fun KR hKR => ?_⟩
                rw [if_pos (show Region.wanted _ _ = true from rfl)]
                clear hs ho
                go_simp
                exact hKR _ (Below.refl _ _)
              · obtain rfl : (undef) = v_ := Lf.v.inj (Option.some.inj (show some (Lf.v (undef)) = some (Lf.v v_) from hi))
                clear hi hl
                have e58 : a_.tmps[58]? = some (.bool true) := hs 3 (by kernel_rfl) _ rfl 58 rfl
                refine ⟨_, rfl, fun KR hKR => ?_⟩
                rw [if_neg (unwanted_of (j := 3) (d := 58) rfl rfl e58 (by simp))]
                exact hKR _ (Below.refl _ _)
              · obtain rfl : (undef) = v_ := Lf.v.inj (Option.some.inj (show some (Lf.v (undef)) = some (Lf.v v_) from hi))
                clear hi hl
                have e58 : a_.tmps[58]? = some (.bool true) := hs 3 (by kernel_rfl) _ rfl 58 rfl
                refine ⟨_, rfl, fun KR hKR => ?_⟩
                rw [if_neg (unwanted_of (j := 3) (d := 58) rfl rfl e58 (by simp))]
                exact hKR _ (Below.refl _ _)
              · obtain rfl : (undef) = v_ := Lf.v.inj (Option.some.inj (show some (Lf.v (undef)) = some (Lf.v v_) from hi))
                clear hi hl
                have e58 : a_.tmps[58]? = some (.bool true) := hs 3 (by kernel_rfl) _ rfl 58 rfl
                refine ⟨_, rfl, fun KR hKR => ?_⟩
                rw [if_neg (unwanted_of (j := 3) (d := 58) rfl rfl e58 (by simp))]
                exact hKR _ (Below.refl _ _)
              · obtain rfl : (undef) = v_ := Lf.v.inj (Option.some.inj (show some (Lf.v (undef)) = some (Lf.v v_) from hi))
                clear hi hl
                have e58 : a_.tmps[58]? = some (.bool true) := hs 3 (by kernel_rfl) _ rfl 58 rfl
                refine ⟨_, rfl, fun KR hKR => ?_⟩
                rw [if_neg (unwanted_of (j := 3) (d := 58) rfl rfl e58 (by simp))]
                exact hKR _ (Below.refl _ _)
              · obtain rfl : (undef) = v_ := Lf.v.inj (Option.some.inj (show some (Lf.v (undef)) = some (Lf.v v_) from hi))
                clear hi hl
                have e58 : a_.tmps[58]? = some (.bool true) := hs 3 (by kernel_rfl) _ rfl 58 rfl
                refine ⟨_, rfl, fun KR hKR => ?_⟩
                rw [if_neg (unwanted_of (j := 3) (d := 58) rfl rfl e58 (by simp))]
                exact hKR _ (Below.refl _ _)
              · obtain rfl : (undef) = v_ := Lf.v.inj (Option.some.inj (show some (Lf.v (undef)) = some (Lf.v v_) from hi))
                clear hi hl
                have e58 : a_.tmps[58]? = some (.bool true) := hs 3 (by kernel_rfl) _ rfl 58 rfl
                refine ⟨_, rfl, fun KR hKR => ?_⟩
                rw [if_neg (unwanted_of (j := 3) (d := 58) rfl rfl e58 (by simp))]
                exact hKR _ (Below.refl _ _)
              · obtain rfl : (undef) = v_ := Lf.v.inj (Option.some.inj (show some (Lf.v (undef)) = some (Lf.v v_) from hi))
                clear hi hl
                have e58 : a_.tmps[58]? = some (.bool true) := hs 3 (by kernel_rfl) _ rfl 58 rfl
                refine ⟨_, rfl, fun KR hKR => ?_⟩
                rw [if_neg (unwanted_of (j := 3) (d := 58) rfl rfl e58 (by simp))]
                exact hKR _ (Below.refl _ _)
              · obtain rfl : (undef) = v_ := Lf.v.inj (Option.some.inj (show some (Lf.v (undef)) = some (Lf.v v_) from hi))
                clear hi hl
                have e58 : a_.tmps[58]? = some (.bool true) := hs 3 (by kernel_rfl) _ rfl 58 rfl
                refine ⟨_, rfl, fun KR hKR => ?_⟩
                rw [if_neg (unwanted_of (j := 3) (d := 58) rfl rfl e58 (by simp))]
                exact hKR _ (Below.refl _ _)
              · obtain rfl : (undef) = v_ := Lf.v.inj (Option.some.inj (show some (Lf.v (undef)) = some (Lf.v v_) from hi))
                clear hi hl
                have e58 : a_.tmps[58]? = some (.bool true) := hs 3 (by kernel_rfl) _ rfl 58 rfl
                refine ⟨_, rfl, fun KR hKR => ?_⟩
                rw [if_neg (unwanted_of (j := 3) (d := 58) rfl rfl e58 (by simp))]
                exact hKR _ (Below.refl _ _)
              · obtain rfl : (.bool true) = v_ := Lf.v.inj (Option.some.inj (show some (Lf.v (.bool true)) = some (Lf.v v_) from hi))
                clear hi hl
                have e58 : a_.tmps[58]? = some (.bool true) := hs 3 (by kernel_rfl) _ rfl 58 rfl
                have e67 : a_.tmps[67]? = some (undef) := hs 12 (by kernel_rfl) _ rfl 67 rfl
                refine ⟨_, rfl, fun KR hKR => ?_⟩
                rw [if_pos (show Region.wanted _ _ = true from rfl)]
                clear hs ho
                go_simp
                exact hKR _ (Below.refl _ _)
            · intro i_ T_ Z_ S_ k_ hi a_ W
              have hl := (List.getElem?_eq_some_iff.1 hi).1
              rcases (show i_ = 0 ∨ i_ = 1 ∨ i_ = 2 ∨ i_ = 3 ∨ i_ = 4 ∨ i_ = 5 ∨ i_ = 6 ∨ i_ = 7 ∨ i_ = 8 ∨ i_ = 9 ∨ i_ = 10 ∨ i_ = 11 ∨ i_ = 12 ∨ i_ = 13 by simp at hl; omega) with rfl | rfl | rfl | rfl | rfl | rfl | rfl | rfl | rfl | rfl | rfl | rfl | rfl | rfl
              · exact Lf.noConfusion (Option.some.inj (show some (Lf.v (.slice A8 0 c8)) = some (Lf.nw T_ Z_ S_ k_) from hi))
              · exact Lf.noConfusion (Option.some.inj (show some (Lf.v (.int .i64 0)) = some (Lf.nw T_ Z_ S_ k_) from hi))
              · exact Lf.noConfusion (Option.some.inj (show some (Lf.v (.bool true)) = some (Lf.nw T_ Z_ S_ k_) from hi))
              · exact Lf.noConfusion (Option.some.inj (show some (Lf.v (.bool true)) = some (Lf.nw T_ Z_ S_ k_) from hi))
              · exact Lf.noConfusion (Option.some.inj (show some (Lf.v (undef)) = some (Lf.nw T_ Z_ S_ k_) from hi))
              · exact Lf.noConfusion (Option.some.inj (show some (Lf.v (undef)) = some (Lf.nw T_ Z_ S_ k_) from hi))
              · exact Lf.noConfusion (Option.some.inj (show some (Lf.v (undef)) = some (Lf.nw T_ Z_ S_ k_) from hi))
              · exact Lf.noConfusion (Option.some.inj (show some (Lf.v (undef)) = some (Lf.nw T_ Z_ S_ k_) from hi))
              · exact Lf.noConfusion (Option.some.inj (show some (Lf.v (undef)) = some (Lf.nw T_ Z_ S_ k_) from hi))
              · exact Lf.noConfusion (Option.some.inj (show some (Lf.v (undef)) = some (Lf.nw T_ Z_ S_ k_) from hi))
              · exact Lf.noConfusion (Option.some.inj (show some (Lf.v (undef)) = some (Lf.nw T_ Z_ S_ k_) from hi))
              · exact Lf.noConfusion (Option.some.inj (show some (Lf.v (undef)) = some (Lf.nw T_ Z_ S_ k_) from hi))
              · exact Lf.noConfusion (Option.some.inj (show some (Lf.v (undef)) = some (Lf.nw T_ Z_ S_ k_) from hi))
              · exact Lf.noConfusion (Option.some.inj (show some (Lf.v (.bool true)) = some (Lf.nw T_ Z_ S_ k_) from hi))
            · intro i_ m_ T_ Z_ S_ hi hm_ a_ W g_ hp_ hg hs
              have hl := (List.getElem?_eq_some_iff.1 hi).1
              rcases (show i_ = 0 ∨ i_ = 1 ∨ i_ = 2 ∨ i_ = 3 ∨ i_ = 4 ∨ i_ = 5 ∨ i_ = 6 ∨ i_ = 7 ∨ i_ = 8 ∨ i_ = 9 ∨ i_ = 10 ∨ i_ = 11 ∨ i_ = 12 ∨ i_ = 13 by simp at hl; omega) with rfl | rfl | rfl | rfl | rfl | rfl | rfl | rfl | rfl | rfl | rfl | rfl | rfl | rfl
              · exact Lf.noConfusion (Option.some.inj (show some (Lf.v (.slice A8 0 c8)) = some (Lf.st m_) from hi))
              · exact Lf.noConfusion (Option.some.inj (show some (Lf.v (.int .i64 0)) = some (Lf.st m_) from hi))
              · exact Lf.noConfusion (Option.some.inj (show some (Lf.v (.bool true)) = some (Lf.st m_) from hi))
              · exact Lf.noConfusion (Option.some.inj (show some (Lf.v (.bool true)) = some (Lf.st m_) from hi))
              · exact Lf.noConfusion (Option.some.inj (show some (Lf.v (undef)) = some (Lf.st m_) from hi))
              · exact Lf.noConfusion (Option.some.inj (show some (Lf.v (undef)) = some (Lf.st m_) from hi))
              · exact Lf.noConfusion (Option.some.inj (show some (Lf.v (undef)) = some (Lf.st m_) from hi))
              · exact Lf.noConfusion (Option.some.inj (show some (Lf.v (undef)) = some (Lf.st m_) from hi))
              · exact Lf.noConfusion (Option.some.inj (show some (Lf.v (undef)) = some (Lf.st m_) from hi))
              · exact Lf.noConfusion (Option.some.inj (show some (Lf.v (undef)) = some (Lf.st m_) from hi))
              · exact Lf.noConfusion (Option.some.inj (show some (Lf.v (undef)) = some (Lf.st m_) from hi))
              · exact Lf.noConfusion (Option.some.inj (show some (Lf.v (undef)) = some (Lf.st m_) from hi))
              · exact Lf.noConfusion (Option.some.inj (show some (Lf.v (undef)) = some (Lf.st m_) from hi))
              · exact Lf.noConfusion (Option.some.inj (show some (Lf.v (.bool true)) = some (Lf.st m_) from hi))
            · intro b_ vals_ W hall hI
              have hB := hI.bel
              have v0 : vals_ 0 = .slice A8 0 c8 := hI.has 0 (Nat.le_of_ble_eq_true rfl) (hall 0 (Nat.le_of_ble_eq_true rfl))
              have v1 : vals_ 1 = .int .i64 0 := hI.has 1 (Nat.le_of_ble_eq_true rfl) (hall 1 (Nat.le_of_ble_eq_true rfl))
              have v2 : vals_ 2 = .bool true := hI.has 2 (Nat.le_of_ble_eq_true rfl) (hall 2 (Nat.le_of_ble_eq_true rfl))
              have v3 : vals_ 3 = .bool true := hI.has 3 (Nat.le_of_ble_eq_true rfl) (hall 3 (Nat.le_of_ble_eq_true rfl))
              have v4 : vals_ 4 = undef := hI.has 4 (Nat.le_of_ble_eq_true rfl) (hall 4 (Nat.le_of_ble_eq_true rfl))
              have v5 : vals_ 5 = undef := hI.has 5 (Nat.le_of_ble_eq_true rfl) (hall 5 (Nat.le_of_ble_eq_true rfl))
              have v6 : vals_ 6 = undef := hI.has 6 (Nat.le_of_ble_eq_true rfl) (hall 6 (Nat.le_of_ble_eq_true rfl))
              have v7 : vals_ 7 = undef := hI.has 7 (Nat.le_of_ble_eq_true rfl) (hall 7 (Nat.le_of_ble_eq_true rfl))
              have v8 : vals_ 8 = undef := hI.has 8 (Nat.le_of_ble_eq_true rfl) (hall 8 (Nat.le_of_ble_eq_true rfl))
              have v9 : vals_ 9 = undef := hI.has 9 (Nat.le_of_ble_eq_true rfl) (hall 9 (Nat.le_of_ble_eq_true rfl))
              have v10 : vals_ 10 = undef := hI.has 10 (Nat.le_of_ble_eq_true rfl) (hall 10 (Nat.le_of_ble_eq_true rfl))
              have v11 : vals_ 11 = undef := hI.has 11 (Nat.le_of_ble_eq_true rfl) (hall 11 (Nat.le_of_ble_eq_true rfl))
              have v12 : vals_ 12 = undef := hI.has 12 (Nat.le_of_ble_eq_true rfl) (hall 12 (Nat.le_of_ble_eq_true rfl))
              have v13 : vals_ 13 = .bool true := hI.has 13 (Nat.le_of_ble_eq_true rfl) (hall 13 (Nat.le_of_ble_eq_true rfl))
              simp only [List.length_cons, List.length_nil, Nat.zero_add, Nat.reduceAdd, List.size_toArray, slots, if_true, dstOf, List.getElem?_toArray, List.getElem?_cons_zero, List.getElem?_cons_succ, Option.bind_some, Act.put, List.setIfInBounds_toArray, List.set_cons_zero, List.set_cons_succ, v0, v1, v2, v3, v4, v5, v6, v7, v8, v9, v10, v11, v12, v13]
              clear hI hall v0 v1 v2 v3 v4 v5 v6 v7 v8 v9 v10 v11 v12 v13
              change wpAny _ _ _ _ 0 _ _ _
              refine wpAny_done (by kernel_rfl) ?_ _
              obtain ⟨wc, rfl⟩ : ∃ wc, wc = W := ⟨_, rfl⟩
              have HQ7 := Lib.hid (HQ6.out.below hB)
              have HO7 := Lib.hid (pw_own_below HO6.out hB)
              have HB7 := Lib.hid (bel HB6.out hB)
              have HG9 := Lib.hid (range_below hB (stamp_range HX.out))
              clear hB HQ6 HO6 HB6 HX
              have hb8 := below_alloc (Below.refl wc.heap.size wc) (.cells (SS (stOf x)) 34)
              have ho8 := pw_own_below HO7.out hb8
              obtain ⟨v', w', r1, r2, r3, r4⟩ := app_st (xs := out) (by rw [← HL.out]; exact ho8) (heap_alloc_new wc (.cells (SS (stOf x)) 34)) (Nat.le_trans HB7.out.size hb8.size) (by rw [← HL.out]; omega)
              have HQ8 := Lib.hid ((HQ7.out.below hb8).grow ho8 r3)
              have HB8 := Lib.hid ((bel HB7.out hb8).grown r3 (by have := HB7.out.size; have := hb8.size; omega) (fun k hk => (own_lt ho8 k hk).1))
              have HO8 := Lib.hid r2
              have R1 := Lib.hid r1
              clear r1 r2 r3 r4 hb8 ho8
              go_wp2_with (first
                | (refine wpList_load_mid rfl 34 (.tmp 70) rfl g9 0 rfl (SS (stOf x)).toList _ HG9.out Try.underlying34 rfl (info34 _) ?_)
                | (refine wp_bs55 (stOf x) rfl (.tmp 71) rfl (by kernel_rfl) ?_)
                | (refine wp_append55 R1.out rfl (.tmp 69) (.tmp 72) rfl rfl (by kernel_rfl) (by kernel_rfl) ?_))
              (obtain ⟨A9, c9, rfl⟩ := own_slice HO8.out)
              go_roundw
              case rel => exact ⟨v4, popL ys, out ++ [stOf x], HO8, by rw [List.length_append, ← HL.out, HPL.out]; simp; omega, HQ8, by rw [HPL.out]; exact HR3, HB8⟩
              case measure => rw [pileN_is HQ8.out, HPL.out, HPN.out, ← HN.out]; omega
          | succ m =>
            obtain ⟨g8, hA8⟩ : ∃ g8, A8 = some ⟨g8, 0, none⟩ := by
              rcases HO6.out.2 with ⟨_, h0⟩ | ⟨g8, cap, cur, e, _⟩
              · omega
              · injection e with e
                exact ⟨g8, e⟩
            subst hA8
            obtain ⟨y, hy⟩ : ∃ y, out[m]? = some y := ⟨_, List.getElem?_eq_getElem (by rw [← HL.out]; omega)⟩
            have HY := Lib.hid hy
            have hlast : out.getLast? = some y := by rw [List.getLast?_eq_getElem?, ← HL.out]; exact hy
            have hm0 : ((m : Int) + 1 == 0) = false := beq_eq_false_iff_ne.2 (by omega)
            have hmb : m ≤ 1000000 := by omega
            have hlt : (m : Int) < (m : Int) + 1 := by omega
            have hwm : IntKind.i64.wrap (m : Int) = m := IntWalk.i64_in _ (by omega)
            have hf := HR2.out
            rw [hlast] at hf
            clear hy hlast
            by_cases hyx : y = stOf x
            · subst hyx
              rw [if_pos rfl] at hf
              have HR3 := Lib.hid hf
              clear hf HR2
              go_wp2
              refine drawn_st (w := w6) ([Lf.v (.slice (some ⟨g8, 0, none⟩) (m + 1) c8), Lf.v (.int .i64 ((m : Int) + 1)), Lf.v (.bool false), Lf.v (.bool false), Lf.v (.slice (some ⟨g8, 0, none⟩) (m + 1) c8), Lf.v (.slice (some ⟨g8, 0, none⟩) (m + 1) c8), Lf.v (.int .i64 ((m : Int) + 1)), Lf.v (.int .i64 (m : Int)), Lf.v (.pointer (some ⟨g8, m * 2, none⟩)), Lf.v (.agg (SS (stOf x))), Lf.v (.pointer (some ⟨g9, 0, none⟩)), Lf.v (.agg (SS (stOf x))), Lf.v (.bool false), Lf.v (.bool false)] : List Lf) (by kernel_rfl) (by kernel_rfl) (by kernel_rfl) (by kernel_rfl) ?_ ?_ ?_ ?_
              · intro i_ v_ hi a_ W hs ho hB
                have hl := (List.getElem?_eq_some_iff.1 hi).1
                rcases (show i_ = 0 ∨ i_ = 1 ∨ i_ = 2 ∨ i_ = 3 ∨ i_ = 4 ∨ i_ = 5 ∨ i_ = 6 ∨ i_ = 7 ∨ i_ = 8 ∨ i_ = 9 ∨ i_ = 10 ∨ i_ = 11 ∨ i_ = 12 ∨ i_ = 13 by simp at hl; omega) with rfl | rfl | rfl | rfl | rfl | rfl | rfl | rfl | rfl | rfl | rfl | rfl | rfl | rfl
                · obtain rfl : (.slice (some ⟨g8, 0, none⟩) (m + 1) c8) = v_ := Lf.v.inj (Option.some.inj (show some (Lf.v (.slice (some ⟨g8, 0, none⟩) (m + 1) c8)) = some (Lf.v v_) from hi))
                  clear hi hl
                  have e8 : a_.tmps[8]? = some (.slice (some ⟨g8, 0, none⟩) (m + 1) c8) := (ho 8 (by kernel_rfl)).trans rfl
                  refine ⟨_, rfl, fun KR hKR => ?_⟩
                  rw [if_pos (show Region.wanted _ _ = true from rfl)]
                  clear hs ho
                  go_simp
                  exact hKR _ (Below.refl _ _)
                · obtain rfl : (.int .i64 ((m : Int) + 1)) = v_ := Lf.v.inj (Option.some.inj (show some (Lf.v (.int .i64 ((m : Int) + 1))) = some (Lf.v v_) from hi))
                  clear hi hl
                  have e55 : a_.tmps[55]? = some (.slice (some ⟨g8, 0, none⟩) (m + 1) c8) := hs 0 (by kernel_rfl) _ rfl 55 rfl
                  refine ⟨_, rfl, fun KR hKR => ?_⟩
                  rw [if_pos (show Region.wanted _ _ = true from rfl)]
                  clear hs ho
                  go_simp
                  exact hKR _ (Below.refl _ _)
                · obtain rfl : (.bool false) = v_ := Lf.v.inj (Option.some.inj (show some (Lf.v (.bool false)) = some (Lf.v v_) from hi))
                  clear hi hl
                  have e56 : a_.tmps[56]? = some (.int .i64 ((m : Int) + 1)) := hs 1 (by kernel_rfl) _ rfl 56 rfl
                  refine ⟨_, rfl, fun KR hKR => ?_⟩
                  rw [if_pos (show Region.wanted _ _ = true from rfl)]
                  clear hs ho
                  go_simp
                  exact hKR _ (Below.refl _ _)
                · obtain rfl : (.bool false) = v_ := Lf.v.inj (Option.some.inj (show some (Lf.v (.bool false)) = some (Lf.v v_) from hi))
                  clear hi hl
                  have e57 : a_.tmps[57]? = some (.bool false) := hs 2 (by kernel_rfl) _ rfl 57 rfl
                  refine ⟨_, rfl, fun KR hKR => ?_⟩
                  rw [if_pos (show Region.wanted _ _ = true from rfl)]
                  clear hs ho
                  go_simp
                  exact hKR _ (Below.refl _ _)
                · obtain rfl : (.slice (some ⟨g8, 0, none⟩) (m + 1) c8) = v_ := Lf.v.inj (Option.some.inj (show some (Lf.v (.slice (some ⟨g8, 0, none⟩) (m + 1) c8)) = some (Lf.v v_) from hi))
                  clear hi hl
                  have e8 : a_.tmps[8]? = some (.slice (some ⟨g8, 0, none⟩) (m + 1) c8) := (ho 8 (by kernel_rfl)).trans rfl
                  have e58 : a_.tmps[58]? = some (.bool false) := hs 3 (by kernel_rfl) _ rfl 58 rfl
                  refine ⟨_, rfl, fun KR hKR => ?_⟩
                  rw [if_pos (wanted_of (j := 3) (d := 58) rfl rfl e58)]
                  clear e58
                  clear hs ho
                  go_simp
                  exact hKR _ (Below.refl _ _)
                · obtain rfl : (.slice (some ⟨g8, 0, none⟩) (m + 1) c8) = v_ := Lf.v.inj (Option.some.inj (show some (Lf.v (.slice (some ⟨g8, 0, none⟩) (m + 1) c8)) = some (Lf.v v_) from hi))
                  clear hi hl
                  have e8 : a_.tmps[8]? = some (.slice (some ⟨g8, 0, none⟩) (m + 1) c8) := (ho 8 (by kernel_rfl)).trans rfl
                  have e58 : a_.tmps[58]? = some (.bool false) := hs 3 (by kernel_rfl) _ rfl 58 rfl
                  refine ⟨_, rfl, fun KR hKR => ?_⟩
                  rw [if_pos (wanted_of (j := 3) (d := 58) rfl rfl e58)]
                  clear e58
                  clear hs ho
                  go_simp
                  exact hKR _ (Below.refl _ _)
                · obtain rfl : (.int .i64 ((m : Int) + 1)) = v_ := Lf.v.inj (Option.some.inj (show some (Lf.v (.int .i64 ((m : Int) + 1))) = some (Lf.v v_) from hi))
                  clear hi hl
                  have e60 : a_.tmps[60]? = some (.slice (some ⟨g8, 0, none⟩) (m + 1) c8) := hs 5 (by kernel_rfl) _ rfl 60 rfl
                  have e58 : a_.tmps[58]? = some (.bool false) := hs 3 (by kernel_rfl) _ rfl 58 rfl
                  refine ⟨_, rfl, fun KR hKR => ?_⟩
                  rw [if_pos (wanted_of (j := 3) (d := 58) rfl rfl e58)]
                  clear e58
                  clear hs ho
                  go_simp
                  exact hKR _ (Below.refl _ _)
                · obtain rfl : (.int .i64 (m : Int)) = v_ := Lf.v.inj (Option.some.inj (show some (Lf.v (.int .i64 (m : Int))) = some (Lf.v v_) from hi))
                  clear hi hl
                  have e61 : a_.tmps[61]? = some (.int .i64 ((m : Int) + 1)) := hs 6 (by kernel_rfl) _ rfl 61 rfl
                  have e58 : a_.tmps[58]? = some (.bool false) := hs 3 (by kernel_rfl) _ rfl 58 rfl
                  refine ⟨_, rfl, fun KR hKR => ?_⟩
                  rw [if_pos (wanted_of (j := 3) (d := 58) rfl rfl e58)]
                  clear e58
                  clear hs ho
                  go_simp
                  exact hKR _ (Below.refl _ _)
                · obtain rfl : (.pointer (some ⟨g8, m * 2, none⟩)) = v_ := Lf.v.inj (Option.some.inj (show some (Lf.v (.pointer (some ⟨g8, m * 2, none⟩))) = some (Lf.v v_) from hi))
                  clear hi hl
                  have e59 : a_.tmps[59]? = some (.slice (some ⟨g8, 0, none⟩) (m + 1) c8) := hs 4 (by kernel_rfl) _ rfl 59 rfl
                  have e62 : a_.tmps[62]? = some (.int .i64 (m : Int)) := hs 7 (by kernel_rfl) _ rfl 62 rfl
                  have e58 : a_.tmps[58]? = some (.bool false) := hs 3 (by kernel_rfl) _ rfl 58 rfl
                  refine ⟨_, rfl, fun KR hKR => ?_⟩
                  rw [if_pos (wanted_of (j := 3) (d := 58) rfl rfl e58)]
                  clear e58
                  clear hs ho
                  go_simp
                  exact hKR _ (Below.refl _ _)
                · obtain rfl : (.agg (SS (stOf x))) = v_ := Lf.v.inj (Option.some.inj (show some (Lf.v (.agg (SS (stOf x)))) = some (Lf.v v_) from hi))
                  clear hi hl
                  have e63 : a_.tmps[63]? = some (.pointer (some ⟨g8, m * 2, none⟩)) := hs 8 (by kernel_rfl) _ rfl 63 rfl
                  have e58 : a_.tmps[58]? = some (.bool false) := hs 3 (by kernel_rfl) _ rfl 58 rfl
                  refine ⟨_, rfl, fun KR hKR => ?_⟩
                  rw [if_pos (wanted_of (j := 3) (d := 58) rfl rfl e58)]
                  clear e58
                  clear hs ho
                  (refine wp_load_mid 34 (.tmp 63) rfl g8 (m * 2) (by simp [Act.eval, e63]) (SS (stOf x)).toList _ (rowS_range (pw_own_below HO6.out hB) HY.out) Try.underlying34 rfl (info34 _) ?_; exact hKR _ (Below.refl _ _))
                · obtain rfl : (.pointer (some ⟨g9, 0, none⟩)) = v_ := Lf.v.inj (Option.some.inj (show some (Lf.v (.pointer (some ⟨g9, 0, none⟩))) = some (Lf.v v_) from hi))
                  clear hi hl
                  have e9 : a_.tmps[9]? = some (.pointer (some ⟨g9, 0, none⟩)) := (ho 9 (by kernel_rfl)).trans rfl
                  have e58 : a_.tmps[58]? = some (.bool false) := hs 3 (by kernel_rfl) _ rfl 58 rfl
                  refine ⟨_, rfl, fun KR hKR => ?_⟩
                  rw [if_pos (wanted_of (j := 3) (d := 58) rfl rfl e58)]
                  clear e58
                  clear hs ho
                  go_simp
                  exact hKR _ (Below.refl _ _)
                · obtain rfl : (.agg (SS (stOf x))) = v_ := Lf.v.inj (Option.some.inj (show some (Lf.v (.agg (SS (stOf x)))) = some (Lf.v v_) from hi))
                  clear hi hl
                  have e65 : a_.tmps[65]? = some (.pointer (some ⟨g9, 0, none⟩)) := hs 10 (by kernel_rfl) _ rfl 65 rfl
                  have e58 : a_.tmps[58]? = some (.bool false) := hs 3 (by kernel_rfl) _ rfl 58 rfl
                  refine ⟨_, rfl, fun KR hKR => ?_⟩
                  rw [if_pos (wanted_of (j := 3) (d := 58) rfl rfl e58)]
                  clear e58
                  clear hs ho
                  (refine wp_load_mid 34 (.tmp 65) rfl g9 0 (by simp [Act.eval, e65]) (SS (stOf x)).toList _ (range_below hB (stamp_range HX.out)) Try.underlying34 rfl (info34 _) ?_; exact hKR _ (Below.refl _ _))
                · obtain rfl : (.bool false) = v_ := Lf.v.inj (Option.some.inj (show some (Lf.v (.bool false)) = some (Lf.v v_) from hi))
                  clear hi hl
                  have e64 : a_.tmps[64]? = some (.agg (SS (stOf x))) := hs 9 (by kernel_rfl) _ rfl 64 rfl
                  have e66 : a_.tmps[66]? = some (.agg (SS (stOf x))) := hs 11 (by kernel_rfl) _ rfl 66 rfl
                  have e58 : a_.tmps[58]? = some (.bool false) := hs 3 (by kernel_rfl) _ rfl 58 rfl
                  refine ⟨_, rfl, fun KR hKR => ?_⟩
                  rw [if_pos (wanted_of (j := 3) (d := 58) rfl rfl e58)]
                  clear e58
                  clear hs ho
                  (refine wp_of_run (exec_neq34s (p := stOf x) (q := stOf x) rfl (by simp [Act.eval, e64]) (by simp [Act.eval, e66]) rfl) ?_; exact hKR _ (Below.refl _ _))
                · obtain rfl : (.bool false) = v_ := Lf.v.inj (Option.some.inj (show some (Lf.v (.bool false)) = some (Lf.v v_) from hi))
                  clear hi hl
                  have e58 : a_.tmps[58]? = some (.bool false) := hs 3 (by kernel_rfl) _ rfl 58 rfl
                  have e67 : a_.tmps[67]? = some (.bool false) := hs 12 (by kernel_rfl) _ rfl 67 rfl
                  refine ⟨_, rfl, fun KR hKR => ?_⟩
                  rw [if_pos (show Region.wanted _ _ = true from rfl)]
                  clear hs ho
                  go_simp
                  exact hKR _ (Below.refl _ _)
              · intro i_ T_ Z_ S_ k_ hi a_ W
                have hl := (List.getElem?_eq_some_iff.1 hi).1
                rcases (show i_ = 0 ∨ i_ = 1 ∨ i_ = 2 ∨ i_ = 3 ∨ i_ = 4 ∨ i_ = 5 ∨ i_ = 6 ∨ i_ = 7 ∨ i_ = 8 ∨ i_ = 9 ∨ i_ = 10 ∨ i_ = 11 ∨ i_ = 12 ∨ i_ = 13 by simp at hl; omega) with rfl | rfl | rfl | rfl | rfl | rfl | rfl | rfl | rfl | rfl | rfl | rfl | rfl | rfl
                · exact Lf.noConfusion (Option.some.inj (show some (Lf.v (.slice (some ⟨g8, 0, none⟩) (m + 1) c8)) = some (Lf.nw T_ Z_ S_ k_) from hi))
                · exact Lf.noConfusion (Option.some.inj (show some (Lf.v (.int .i64 ((m : Int) + 1))) = some (Lf.nw T_ Z_ S_ k_) from hi))
                · exact Lf.noConfusion (Option.some.inj (show some (Lf.v (.bool false)) = some (Lf.nw T_ Z_ S_ k_) from hi))
                · exact Lf.noConfusion (Option.some.inj (show some (Lf.v (.bool false)) = some (Lf.nw T_ Z_ S_ k_) from hi))
                · exact Lf.noConfusion (Option.some.inj (show some (Lf.v (.slice (some ⟨g8, 0, none⟩) (m + 1) c8)) = some (Lf.nw T_ Z_ S_ k_) from hi))
                · exact Lf.noConfusion (Option.some.inj (show some (Lf.v (.slice (some ⟨g8, 0, none⟩) (m + 1) c8)) = some (Lf.nw T_ Z_ S_ k_) from hi))
                · exact Lf.noConfusion (Option.some.inj (show some (Lf.v (.int .i64 ((m : Int) + 1))) = some (Lf.nw T_ Z_ S_ k_) from hi))
                · exact Lf.noConfusion (Option.some.inj (show some (Lf.v (.int .i64 (m : Int))) = some (Lf.nw T_ Z_ S_ k_) from hi))
                · exact Lf.noConfusion (Option.some.inj (show some (Lf.v (.pointer (some ⟨g8, m * 2, none⟩))) = some (Lf.nw T_ Z_ S_ k_) from hi))
                · exact Lf.noConfusion (Option.some.inj (show some (Lf.v (.agg (SS (stOf x)))) = some (Lf.nw T_ Z_ S_ k_) from hi))
                · exact Lf.noConfusion (Option.some.inj (show some (Lf.v (.pointer (some ⟨g9, 0, none⟩))) = some (Lf.nw T_ Z_ S_ k_) from hi))
                · exact Lf.noConfusion (Option.some.inj (show some (Lf.v (.agg (SS (stOf x)))) = some (Lf.nw T_ Z_ S_ k_) from hi))
                · exact Lf.noConfusion (Option.some.inj (show some (Lf.v (.bool false)) = some (Lf.nw T_ Z_ S_ k_) from hi))
                · exact Lf.noConfusion (Option.some.inj (show some (Lf.v (.bool false)) = some (Lf.nw T_ Z_ S_ k_) from hi))
              · intro i_ m_ T_ Z_ S_ hi hm_ a_ W g_ hp_ hg hs
                have hl := (List.getElem?_eq_some_iff.1 hi).1
                rcases (show i_ = 0 ∨ i_ = 1 ∨ i_ = 2 ∨ i_ = 3 ∨ i_ = 4 ∨ i_ = 5 ∨ i_ = 6 ∨ i_ = 7 ∨ i_ = 8 ∨ i_ = 9 ∨ i_ = 10 ∨ i_ = 11 ∨ i_ = 12 ∨ i_ = 13 by simp at hl; omega) with rfl | rfl | rfl | rfl | rfl | rfl | rfl | rfl | rfl | rfl | rfl | rfl | rfl | rfl
                · exact Lf.noConfusion (Option.some.inj (show some (Lf.v (.slice (some ⟨g8, 0, none⟩) (m + 1) c8)) = some (Lf.st m_) from hi))
                · exact Lf.noConfusion (Option.some.inj (show some (Lf.v (.int .i64 ((m : Int) + 1))) = some (Lf.st m_) from hi))
                · exact Lf.noConfusion (Option.some.inj (show some (Lf.v (.bool false)) = some (Lf.st m_) from hi))
                · exact Lf.noConfusion (Option.some.inj (show some (Lf.v (.bool false)) = some (Lf.st m_) from hi))
                · exact Lf.noConfusion (Option.some.inj (show some (Lf.v (.slice (some ⟨g8, 0, none⟩) (m + 1) c8)) = some (Lf.st m_) from hi))
                · exact Lf.noConfusion (Option.some.inj (show some (Lf.v (.slice (some ⟨g8, 0, none⟩) (m + 1) c8)) = some (Lf.st m_) from hi))
                · exact Lf.noConfusion (Option.some.inj (show some (Lf.v (.int .i64 ((m : Int) + 1))) = some (Lf.st m_) from hi))
                · exact Lf.noConfusion (Option.some.inj (show some (Lf.v (.int .i64 (m : Int))) = some (Lf.st m_) from hi))
                · exact Lf.noConfusion (Option.some.inj (show some (Lf.v (.pointer (some ⟨g8, m * 2, none⟩))) = some (Lf.st m_) from hi))
                · exact Lf.noConfusion (Option.some.inj (show some (Lf.v (.agg (SS (stOf x)))) = some (Lf.st m_) from hi))
                · exact Lf.noConfusion (Option.some.inj (show some (Lf.v (.pointer (some ⟨g9, 0, none⟩))) = some (Lf.st m_) from hi))
                · exact Lf.noConfusion (Option.some.inj (show some (Lf.v (.agg (SS (stOf x)))) = some (Lf.st m_) from hi))
                · exact Lf.noConfusion (Option.some.inj (show some (Lf.v (.bool false)) = some (Lf.st m_) from hi))
                · exact Lf.noConfusion (Option.some.inj (show some (Lf.v (.bool false)) = some (Lf.st m_) from hi))
              · intro b_ vals_ W hall hI
                have hB := hI.bel
                have v0 : vals_ 0 = .slice (some ⟨g8, 0, none⟩) (m + 1) c8 := hI.has 0 (Nat.le_of_ble_eq_true rfl) (hall 0 (Nat.le_of_ble_eq_true rfl))
                have v1 : vals_ 1 = .int .i64 ((m : Int) + 1) := hI.has 1 (Nat.le_of_ble_eq_true rfl) (hall 1 (Nat.le_of_ble_eq_true rfl))
                have v2 : vals_ 2 = .bool false := hI.has 2 (Nat.le_of_ble_eq_true rfl) (hall 2 (Nat.le_of_ble_eq_true rfl))
                have v3 : vals_ 3 = .bool false := hI.has 3 (Nat.le_of_ble_eq_true rfl) (hall 3 (Nat.le_of_ble_eq_true rfl))
                have v4 : vals_ 4 = .slice (some ⟨g8, 0, none⟩) (m + 1) c8 := hI.has 4 (Nat.le_of_ble_eq_true rfl) (hall 4 (Nat.le_of_ble_eq_true rfl))
                have v5 : vals_ 5 = .slice (some ⟨g8, 0, none⟩) (m + 1) c8 := hI.has 5 (Nat.le_of_ble_eq_true rfl) (hall 5 (Nat.le_of_ble_eq_true rfl))
                have v6 : vals_ 6 = .int .i64 ((m : Int) + 1) := hI.has 6 (Nat.le_of_ble_eq_true rfl) (hall 6 (Nat.le_of_ble_eq_true rfl))
                have v7 : vals_ 7 = .int .i64 (m : Int) := hI.has 7 (Nat.le_of_ble_eq_true rfl) (hall 7 (Nat.le_of_ble_eq_true rfl))
                have v8 : vals_ 8 = .pointer (some ⟨g8, m * 2, none⟩) := hI.has 8 (Nat.le_of_ble_eq_true rfl) (hall 8 (Nat.le_of_ble_eq_true rfl))
                have v9 : vals_ 9 = .agg (SS (stOf x)) := hI.has 9 (Nat.le_of_ble_eq_true rfl) (hall 9 (Nat.le_of_ble_eq_true rfl))
                have v10 : vals_ 10 = .pointer (some ⟨g9, 0, none⟩) := hI.has 10 (Nat.le_of_ble_eq_true rfl) (hall 10 (Nat.le_of_ble_eq_true rfl))
                have v11 : vals_ 11 = .agg (SS (stOf x)) := hI.has 11 (Nat.le_of_ble_eq_true rfl) (hall 11 (Nat.le_of_ble_eq_true rfl))
                have v12 : vals_ 12 = .bool false := hI.has 12 (Nat.le_of_ble_eq_true rfl) (hall 12 (Nat.le_of_ble_eq_true rfl))
                have v13 : vals_ 13 = .bool false := hI.has 13 (Nat.le_of_ble_eq_true rfl) (hall 13 (Nat.le_of_ble_eq_true rfl))
                simp only [List.length_cons, List.length_nil, Nat.zero_add, Nat.reduceAdd, List.size_toArray, slots, if_true, dstOf, List.getElem?_toArray, List.getElem?_cons_zero, List.getElem?_cons_succ, Option.bind_some, Act.put, List.setIfInBounds_toArray, List.set_cons_zero, List.set_cons_succ, v0, v1, v2, v3, v4, v5, v6, v7, v8, v9, v10, v11, v12, v13]
                clear hI hall v0 v1 v2 v3 v4 v5 v6 v7 v8 v9 v10 v11 v12 v13
                change wpAny _ _ _ _ 0 _ _ _
                refine wpAny_done (by kernel_rfl) ?_ _
                obtain ⟨wc, rfl⟩ : ∃ wc, wc = W := ⟨_, rfl⟩
                have HQ7 := Lib.hid (HQ6.out.below hB)
                have HO7 := Lib.hid (pw_own_below HO6.out hB)
                have HB7 := Lib.hid (bel HB6.out hB)
                have HG9 := Lib.hid (range_below hB (stamp_range HX.out))
                clear hB HQ6 HO6 HB6 HX
                go_wp2
                go_roundw
                case rel => exact ⟨v4, popL ys, out, by rw [← HL.out]; exact HO7, by rw [← HL.out, HPL.out]; omega, HQ7, by rw [HPL.out]; exact HR3, HB7⟩
                case measure => rw [pileN_is HQ7.out, HPL.out, HPN.out, ← HN.out]; omega
            · rw [if_neg (fun e => hyx (by injection e))] at hf
              have HR3 := Lib.hid hf
              have hyd : decide (y = stOf x) = false := decide_eq_false hyx
              clear hf HR2 hyx
              go_wp2
              refine drawn_st (w := w6) ([Lf.v (.slice (some ⟨g8, 0, none⟩) (m + 1) c8), Lf.v (.int .i64 ((m : Int) + 1)), Lf.v (.bool false), Lf.v (.bool false), Lf.v (.slice (some ⟨g8, 0, none⟩) (m + 1) c8), Lf.v (.slice (some ⟨g8, 0, none⟩) (m + 1) c8), Lf.v (.int .i64 ((m : Int) + 1)), Lf.v (.int .i64 (m : Int)), Lf.v (.pointer (some ⟨g8, m * 2, none⟩)), Lf.v (.agg (SS y)), Lf.v (.pointer (some ⟨g9, 0, none⟩)), Lf.v (.agg (SS (stOf x))), Lf.v (.bool true), Lf.v (.bool true)] : List Lf) (by kernel_rfl) (by kernel_rfl) (by kernel_rfl) (by kernel_rfl) ?_ ?_ ?_ ?_
              · intro i_ v_ hi a_ W hs ho hB
                have hl := (List.getElem?_eq_some_iff.1 hi).1
                rcases (show i_ = 0 ∨ i_ = 1 ∨ i_ = 2 ∨ i_ = 3 ∨ i_ = 4 ∨ i_ = 5 ∨ i_ = 6 ∨ i_ = 7 ∨ i_ = 8 ∨ i_ = 9 ∨ i_ = 10 ∨ i_ = 11 ∨ i_ = 12 ∨ i_ = 13 by simp at hl; omega) with rfl | rfl | rfl | rfl | rfl | rfl | rfl | rfl | rfl | rfl | rfl | rfl | rfl | rfl
                · obtain rfl : (.slice (some ⟨g8, 0, none⟩) (m + 1) c8) = v_ := Lf.v.inj (Option.some.inj (show some (Lf.v (.slice (some ⟨g8, 0, none⟩) (m + 1) c8)) = some (Lf.v v_) from hi))
                  clear hi hl
                  have e8 : a_.tmps[8]? = some (.slice (some ⟨g8, 0, none⟩) (m + 1) c8) := (ho 8 (by kernel_rfl)).trans rfl
                  refine ⟨_, rfl, fun KR hKR => ?_⟩
                  rw [if_pos (show Region.wanted _ _ = true from rfl)]
                  clear hs ho
                  go_simp
                  exact hKR _ (Below.refl _ _)
                · obtain rfl : (.int .i64 ((m : Int) + 1)) = v_ := Lf.v.inj (Option.some.inj (show some (Lf.v (.int .i64 ((m : Int) + 1))) = some (Lf.v v_) from hi))
                  clear hi hl
                  have e55 : a_.tmps[55]? = some (.slice (some ⟨g8, 0, none⟩) (m + 1) c8) := hs 0 (by kernel_rfl) _ rfl 55 rfl
                  refine ⟨_, rfl, fun KR hKR => ?_⟩
                  rw [if_pos (show Region.wanted _ _ = true from rfl)]
                  clear hs ho
                  go_simp
                  exact hKR _ (Below.refl _ _)
                · obtain rfl : (.bool false) = v_ := Lf.v.inj (Option.some.inj (show some (Lf.v (.bool false)) = some (Lf.v v_) from hi))
                  clear hi hl
                  have e56 : a_.tmps[56]? = some (.int .i64 ((m : Int) + 1)) := hs 1 (by kernel_rfl) _ rfl 56 rfl
                  refine ⟨_, rfl, fun KR hKR => ?_⟩
                  rw [if_pos (show Region.wanted _ _ = true from rfl)]
                  clear hs ho
                  go_simp
                  exact hKR _ (Below.refl _ _)
                · obtain rfl : (.bool false) = v_ := Lf.v.inj (Option.some.inj (show some (Lf.v (.bool false)) = some (Lf.v v_) from hi))
                  clear hi hl
                  have e57 : a_.tmps[57]? = some (.bool false) := hs 2 (by kernel_rfl) _ rfl 57 rfl
                  refine ⟨_, rfl, fun KR hKR => ?_⟩
                  rw [if_pos (show Region.wanted _ _ = true from rfl)]
                  clear hs ho
                  go_simp
                  exact hKR _ (Below.refl _ _)
                · obtain rfl : (.slice (some ⟨g8, 0, none⟩) (m + 1) c8) = v_ := Lf.v.inj (Option.some.inj (show some (Lf.v (.slice (some ⟨g8, 0, none⟩) (m + 1) c8)) = some (Lf.v v_) from hi))
                  clear hi hl
                  have e8 : a_.tmps[8]? = some (.slice (some ⟨g8, 0, none⟩) (m + 1) c8) := (ho 8 (by kernel_rfl)).trans rfl
                  have e58 : a_.tmps[58]? = some (.bool false) := hs 3 (by kernel_rfl) _ rfl 58 rfl
                  refine ⟨_, rfl, fun KR hKR => ?_⟩
                  rw [if_pos (wanted_of (j := 3) (d := 58) rfl rfl e58)]
                  clear e58
                  clear hs ho
                  go_simp
                  exact hKR _ (Below.refl _ _)
                · obtain rfl : (.slice (some ⟨g8, 0, none⟩) (m + 1) c8) = v_ := Lf.v.inj (Option.some.inj (show some (Lf.v (.slice (some ⟨g8, 0, none⟩) (m + 1) c8)) = some (Lf.v v_) from hi))
                  clear hi hl
                  have e8 : a_.tmps[8]? = some (.slice (some ⟨g8, 0, none⟩) (m + 1) c8) := (ho 8 (by kernel_rfl)).trans rfl
                  have e58 : a_.tmps[58]? = some (.bool false) := hs 3 (by kernel_rfl) _ rfl 58 rfl
                  refine ⟨_, rfl, fun KR hKR => ?_⟩
                  rw [if_pos (wanted_of (j := 3) (d := 58) rfl rfl e58)]
                  clear e58
                  clear hs ho
                  go_simp
                  exact hKR _ (Below.refl _ _)
                · obtain rfl : (.int .i64 ((m : Int) + 1)) = v_ := Lf.v.inj (Option.some.inj (show some (Lf.v (.int .i64 ((m : Int) + 1))) = some (Lf.v v_) from hi))
                  clear hi hl
                  have e60 : a_.tmps[60]? = some (.slice (some ⟨g8, 0, none⟩) (m + 1) c8) := hs 5 (by kernel_rfl) _ rfl 60 rfl
                  have e58 : a_.tmps[58]? = some (.bool false) := hs 3 (by kernel_rfl) _ rfl 58 rfl
                  refine ⟨_, rfl, fun KR hKR => ?_⟩
                  rw [if_pos (wanted_of (j := 3) (d := 58) rfl rfl e58)]
                  clear e58
                  clear hs ho
                  go_simp
                  exact hKR _ (Below.refl _ _)
                · obtain rfl : (.int .i64 (m : Int)) = v_ := Lf.v.inj (Option.some.inj (show some (Lf.v (.int .i64 (m : Int))) = some (Lf.v v_) from hi))
                  clear hi hl
                  have e61 : a_.tmps[61]? = some (.int .i64 ((m : Int) + 1)) := hs 6 (by kernel_rfl) _ rfl 61 rfl
                  have e58 : a_.tmps[58]? = some (.bool false) := hs 3 (by kernel_rfl) _ rfl 58 rfl
                  refine ⟨_, rfl, fun KR hKR => ?_⟩
                  rw [if_pos (wanted_of (j := 3) (d := 58) rfl rfl e58)]
                  clear e58
                  clear hs ho
                  go_simp
                  exact hKR _ (Below.refl _ _)
                · obtain rfl : (.pointer (some ⟨g8, m * 2, none⟩)) = v_ := Lf.v.inj (Option.some.inj (show some (Lf.v (.pointer (some ⟨g8, m * 2, none⟩))) = some (Lf.v v_) from hi))
                  clear hi hl
                  have e59 : a_.tmps[59]? = some (.slice (some ⟨g8, 0, none⟩) (m + 1) c8) := hs 4 (by kernel_rfl) _ rfl 59 rfl
                  have e62 : a_.tmps[62]? = some (.int .i64 (m : Int)) := hs 7 (by kernel_rfl) _ rfl 62 rfl
                  have e58 : a_.tmps[58]? = some (.bool false) := hs 3 (by kernel_rfl) _ rfl 58 rfl
                  refine ⟨_, rfl, fun KR hKR => ?_⟩
                  rw [if_pos (wanted_of (j := 3) (d := 58) rfl rfl e58)]
                  clear e58
                  clear hs ho
                  go_simp
                  exact hKR _ (Below.refl _ _)
                · obtain rfl : (.agg (SS y)) = v_ := Lf.v.inj (Option.some.inj (show some (Lf.v (.agg (SS y))) = some (Lf.v v_) from hi))
                  clear hi hl
                  have e63 : a_.tmps[63]? = some (.pointer (some ⟨g8, m * 2, none⟩)) := hs 8 (by kernel_rfl) _ rfl 63 rfl
                  have e58 : a_.tmps[58]? = some (.bool false) := hs 3 (by kernel_rfl) _ rfl 58 rfl
                  refine ⟨_, rfl, fun KR hKR => ?_⟩
                  rw [if_pos (wanted_of (j := 3) (d := 58) rfl rfl e58)]
                  clear e58
                  clear hs ho
                  (refine wp_load_mid 34 (.tmp 63) rfl g8 (m * 2) (by simp [Act.eval, e63]) (SS y).toList _ (rowS_range (pw_own_below HO6.out hB) HY.out) Try.underlying34 rfl (info34 _) ?_; exact hKR _ (Below.refl _ _))
                · obtain rfl : (.pointer (some ⟨g9, 0, none⟩)) = v_ := Lf.v.inj (Option.some.inj (show some (Lf.v (.pointer (some ⟨g9, 0, none⟩))) = some (Lf.v v_) from hi))
                  clear hi hl
                  have e9 : a_.tmps[9]? = some (.pointer (some ⟨g9, 0, none⟩)) := (ho 9 (by kernel_rfl)).trans rfl
                  have e58 : a_.tmps[58]? = some (.bool false) := hs 3 (by kernel_rfl) _ rfl 58 rfl
                  refine ⟨_, rfl, fun KR hKR => ?_⟩
                  rw [if_pos (wanted_of (j := 3) (d := 58) rfl rfl e58)]
                  clear e58
                  clear hs ho
                  go_simp
                  exact hKR _ (Below.refl _ _)
                · obtain rfl : (.agg (SS (stOf x))) = v_ := Lf.v.inj (Option.some.inj (show some (Lf.v (.agg (SS (stOf x)))) = some (Lf.v v_) from hi))
                  clear hi hl
                  have e65 : a_.tmps[65]? = some (.pointer (some ⟨g9, 0, none⟩)) := hs 10 (by kernel_rfl) _ rfl 65 rfl
                  have e58 : a_.tmps[58]? = some (.bool false) := hs 3 (by kernel_rfl) _ rfl 58 rfl
                  refine ⟨_, rfl, fun KR hKR => ?_⟩
                  rw [if_pos (wanted_of (j := 3) (d := 58) rfl rfl e58)]
                  clear e58
                  clear hs ho
                  (refine wp_load_mid 34 (.tmp 65) rfl g9 0 (by simp [Act.eval, e65]) (SS (stOf x)).toList _ (range_below hB (stamp_range HX.out)) Try.underlying34 rfl (info34 _) ?_; exact hKR _ (Below.refl _ _))
                · obtain rfl : (.bool true) = v_ := Lf.v.inj (Option.some.inj (show some (Lf.v (.bool true)) = some (Lf.v v_) from hi))
                  clear hi hl
                  have e64 : a_.tmps[64]? = some (.agg (SS y)) := hs 9 (by kernel_rfl) _ rfl 64 rfl
                  have e66 : a_.tmps[66]? = some (.agg (SS (stOf x))) := hs 11 (by kernel_rfl) _ rfl 66 rfl
                  have e58 : a_.tmps[58]? = some (.bool false) := hs 3 (by kernel_rfl) _ rfl 58 rfl
                  refine ⟨_, rfl, fun KR hKR => ?_⟩
                  rw [if_pos (wanted_of (j := 3) (d := 58) rfl rfl e58)]
                  clear e58
                  clear hs ho
                  (refine wp_of_run (exec_neq34d (p := y) (q := stOf x) rfl (by simp [Act.eval, e64]) (by simp [Act.eval, e66]) hyd) ?_; exact hKR _ (Below.refl _ _))
                · obtain rfl : (.bool true) = v_ := Lf.v.inj (Option.some.inj (show some (Lf.v (.bool true)) = some (Lf.v v_) from hi))
                  clear hi hl
                  have e58 : a_.tmps[58]? = some (.bool false) := hs 3 (by kernel_rfl) _ rfl 58 rfl
                  have e67 : a_.tmps[67]? = some (.bool true) := hs 12 (by kernel_rfl) _ rfl 67 rfl
                  refine ⟨_, rfl, fun KR hKR => ?_⟩
                  rw [if_pos (show Region.wanted _ _ = true from rfl)]
                  clear hs ho
                  go_simp
                  exact hKR _ (Below.refl _ _)
              · intro i_ T_ Z_ S_ k_ hi a_ W
                have hl := (List.getElem?_eq_some_iff.1 hi).1
                rcases (show i_ = 0 ∨ i_ = 1 ∨ i_ = 2 ∨ i_ = 3 ∨ i_ = 4 ∨ i_ = 5 ∨ i_ = 6 ∨ i_ = 7 ∨ i_ = 8 ∨ i_ = 9 ∨ i_ = 10 ∨ i_ = 11 ∨ i_ = 12 ∨ i_ = 13 by simp at hl; omega) with rfl | rfl | rfl | rfl | rfl | rfl | rfl | rfl | rfl | rfl | rfl | rfl | rfl | rfl
                · exact Lf.noConfusion (Option.some.inj (show some (Lf.v (.slice (some ⟨g8, 0, none⟩) (m + 1) c8)) = some (Lf.nw T_ Z_ S_ k_) from hi))
                · exact Lf.noConfusion (Option.some.inj (show some (Lf.v (.int .i64 ((m : Int) + 1))) = some (Lf.nw T_ Z_ S_ k_) from hi))
                · exact Lf.noConfusion (Option.some.inj (show some (Lf.v (.bool false)) = some (Lf.nw T_ Z_ S_ k_) from hi))
                · exact Lf.noConfusion (Option.some.inj (show some (Lf.v (.bool false)) = some (Lf.nw T_ Z_ S_ k_) from hi))
                · exact Lf.noConfusion (Option.some.inj (show some (Lf.v (.slice (some ⟨g8, 0, none⟩) (m + 1) c8)) = some (Lf.nw T_ Z_ S_ k_) from hi))
                · exact Lf.noConfusion (Option.some.inj (show some (Lf.v (.slice (some ⟨g8, 0, none⟩) (m + 1) c8)) = some (Lf.nw T_ Z_ S_ k_) from hi))
                · exact Lf.noConfusion (Option.some.inj (show some (Lf.v (.int .i64 ((m : Int) + 1))) = some (Lf.nw T_ Z_ S_ k_) from hi))
                · exact Lf.noConfusion (Option.some.inj (show some (Lf.v (.int .i64 (m : Int))) = some (Lf.nw T_ Z_ S_ k_) from hi))
                · exact Lf.noConfusion (Option.some.inj (show some (Lf.v (.pointer (some ⟨g8, m * 2, none⟩))) = some (Lf.nw T_ Z_ S_ k_) from hi))
                · exact Lf.noConfusion (Option.some.inj (show some (Lf.v (.agg (SS y))) = some (Lf.nw T_ Z_ S_ k_) from hi))
                · exact Lf.noConfusion (Option.some.inj (show some (Lf.v (.pointer (some ⟨g9, 0, none⟩))) = some (Lf.nw T_ Z_ S_ k_) from hi))
                · exact Lf.noConfusion (Option.some.inj (show some (Lf.v (.agg (SS (stOf x)))) = some (Lf.nw T_ Z_ S_ k_) from hi))
                · exact Lf.noConfusion (Option.some.inj (show some (Lf.v (.bool true)) = some (Lf.nw T_ Z_ S_ k_) from hi))
                · exact Lf.noConfusion (Option.some.inj (show some (Lf.v (.bool true)) = some (Lf.nw T_ Z_ S_ k_) from hi))
              · intro i_ m_ T_ Z_ S_ hi hm_ a_ W g_ hp_ hg hs
                have hl := (List.getElem?_eq_some_iff.1 hi).1
                rcases (show i_ = 0 ∨ i_ = 1 ∨ i_ = 2 ∨ i_ = 3 ∨ i_ = 4 ∨ i_ = 5 ∨ i_ = 6 ∨ i_ = 7 ∨ i_ = 8 ∨ i_ = 9 ∨ i_ = 10 ∨ i_ = 11 ∨ i_ = 12 ∨ i_ = 13 by simp at hl; omega) with rfl | rfl | rfl | rfl | rfl | rfl | rfl | rfl | rfl | rfl | rfl | rfl | rfl | rfl
                · exact Lf.noConfusion (Option.some.inj (show some (Lf.v (.slice (some ⟨g8, 0, none⟩) (m + 1) c8)) = some (Lf.st m_) from hi))
                · exact Lf.noConfusion (Option.some.inj (show some (Lf.v (.int .i64 ((m : Int) + 1))) = some (Lf.st m_) from hi))
                · exact Lf.noConfusion (Option.some.inj (show some (Lf.v (.bool false)) = some (Lf.st m_) from hi))
                · exact Lf.noConfusion (Option.some.inj (show some (Lf.v (.bool false)) = some (Lf.st m_) from hi))
                · exact Lf.noConfusion (Option.some.inj (show some (Lf.v (.slice (some ⟨g8, 0, none⟩) (m + 1) c8)) = some (Lf.st m_) from hi))
                · exact Lf.noConfusion (Option.some.inj (show some (Lf.v (.slice (some ⟨g8, 0, none⟩) (m + 1) c8)) = some (Lf.st m_) from hi))
                · exact Lf.noConfusion (Option.some.inj (show some (Lf.v (.int .i64 ((m : Int) + 1))) = some (Lf.st m_) from hi))
                · exact Lf.noConfusion (Option.some.inj (show some (Lf.v (.int .i64 (m : Int))) = some (Lf.st m_) from hi))
                · exact Lf.noConfusion (Option.some.inj (show some (Lf.v (.pointer (some ⟨g8, m * 2, none⟩))) = some (Lf.st m_) from hi))
                · exact Lf.noConfusion (Option.some.inj (show some (Lf.v (.agg (SS y))) = some (Lf.st m_) from hi))
                · exact Lf.noConfusion (Option.some.inj (show some (Lf.v (.pointer (some ⟨g9, 0, none⟩))) = some (Lf.st m_) from hi))
                · exact Lf.noConfusion (Option.some.inj (show some (Lf.v (.agg (SS (stOf x)))) = some (Lf.st m_) from hi))
                · exact Lf.noConfusion (Option.some.inj (show some (Lf.v (.bool true)) = some (Lf.st m_) from hi))
                · exact Lf.noConfusion (Option.some.inj (show some (Lf.v (.bool true)) = some (Lf.st m_) from hi))
              · intro b_ vals_ W hall hI
                have hB := hI.bel
                have v0 : vals_ 0 = .slice (some ⟨g8, 0, none⟩) (m + 1) c8 := hI.has 0 (Nat.le_of_ble_eq_true rfl) (hall 0 (Nat.le_of_ble_eq_true rfl))
                have v1 : vals_ 1 = .int .i64 ((m : Int) + 1) := hI.has 1 (Nat.le_of_ble_eq_true rfl) (hall 1 (Nat.le_of_ble_eq_true rfl))
                have v2 : vals_ 2 = .bool false := hI.has 2 (Nat.le_of_ble_eq_true rfl) (hall 2 (Nat.le_of_ble_eq_true rfl))
                have v3 : vals_ 3 = .bool false := hI.has 3 (Nat.le_of_ble_eq_true rfl) (hall 3 (Nat.le_of_ble_eq_true rfl))
                have v4 : vals_ 4 = .slice (some ⟨g8, 0, none⟩) (m + 1) c8 := hI.has 4 (Nat.le_of_ble_eq_true rfl) (hall 4 (Nat.le_of_ble_eq_true rfl))
                have v5 : vals_ 5 = .slice (some ⟨g8, 0, none⟩) (m + 1) c8 := hI.has 5 (Nat.le_of_ble_eq_true rfl) (hall 5 (Nat.le_of_ble_eq_true rfl))
                have v6 : vals_ 6 = .int .i64 ((m : Int) + 1) := hI.has 6 (Nat.le_of_ble_eq_true rfl) (hall 6 (Nat.le_of_ble_eq_true rfl))
                have v7 : vals_ 7 = .int .i64 (m : Int) := hI.has 7 (Nat.le_of_ble_eq_true rfl) (hall 7 (Nat.le_of_ble_eq_true rfl))
                have v8 : vals_ 8 = .pointer (some ⟨g8, m * 2, none⟩) := hI.has 8 (Nat.le_of_ble_eq_true rfl) (hall 8 (Nat.le_of_ble_eq_true rfl))
                have v9 : vals_ 9 = .agg (SS y) := hI.has 9 (Nat.le_of_ble_eq_true rfl) (hall 9 (Nat.le_of_ble_eq_true rfl))
                have v10 : vals_ 10 = .pointer (some ⟨g9, 0, none⟩) := hI.has 10 (Nat.le_of_ble_eq_true rfl) (hall 10 (Nat.le_of_ble_eq_true rfl))
                have v11 : vals_ 11 = .agg (SS (stOf x)) := hI.has 11 (Nat.le_of_ble_eq_true rfl) (hall 11 (Nat.le_of_ble_eq_true rfl))
                have v12 : vals_ 12 = .bool true := hI.has 12 (Nat.le_of_ble_eq_true rfl) (hall 12 (Nat.le_of_ble_eq_true rfl))
                have v13 : vals_ 13 = .bool true := hI.has 13 (Nat.le_of_ble_eq_true rfl) (hall 13 (Nat.le_of_ble_eq_true rfl))
                simp only [List.length_cons, List.length_nil, Nat.zero_add, Nat.reduceAdd, List.size_toArray, slots, if_true, dstOf, List.getElem?_toArray, List.getElem?_cons_zero, List.getElem?_cons_succ, Option.bind_some, Act.put, List.setIfInBounds_toArray, List.set_cons_zero, List.set_cons_succ, v0, v1, v2, v3, v4, v5, v6, v7, v8, v9, v10, v11, v12, v13]
                clear hI hall v0 v1 v2 v3 v4 v5 v6 v7 v8 v9 v10 v11 v12 v13
                change wpAny _ _ _ _ 0 _ _ _
                refine wpAny_done (by kernel_rfl) ?_ _
                obtain ⟨wc, rfl⟩ : ∃ wc, wc = W := ⟨_, rfl⟩
                have HQ7 := Lib.hid (HQ6.out.below hB)
                have HO7 := Lib.hid (pw_own_below HO6.out hB)
                have HB7 := Lib.hid (bel HB6.out hB)
                have HG9 := Lib.hid (range_below hB (stamp_range HX.out))
                clear hB HQ6 HO6 HB6 HX
                have hb8 := below_alloc (Below.refl wc.heap.size wc) (.cells (SS (stOf x)) 34)
                have ho8 := pw_own_below HO7.out hb8
                obtain ⟨v', w', r1, r2, r3, r4⟩ := app_st (xs := out) (by rw [← HL.out]; exact ho8) (heap_alloc_new wc (.cells (SS (stOf x)) 34)) (Nat.le_trans HB7.out.size hb8.size) (by rw [← HL.out]; omega)
                have HQ8 := Lib.hid ((HQ7.out.below hb8).grow ho8 r3)
                have HB8 := Lib.hid ((bel HB7.out hb8).grown r3 (by have := HB7.out.size; have := hb8.size; omega) (fun k hk => (own_lt ho8 k hk).1))
                have HO8 := Lib.hid r2
                have R1 := Lib.hid r1
                clear r1 r2 r3 r4 hb8 ho8
                go_wp2_with (first
                  | (refine wpList_load_mid rfl 34 (.tmp 70) rfl g9 0 rfl (SS (stOf x)).toList _ HG9.out Try.underlying34 rfl (info34 _) ?_)
                  | (refine wp_bs55 (stOf x) rfl (.tmp 71) rfl (by kernel_rfl) ?_)
                  | (refine wp_append55 R1.out rfl (.tmp 69) (.tmp 72) rfl rfl (by kernel_rfl) (by kernel_rfl) ?_))
                (obtain ⟨A9, c9, rfl⟩ := own_slice HO8.out)
                go_roundw
                case rel => exact ⟨v4, popL ys, out ++ [stOf x], HO8, by rw [List.length_append, ← HL.out, HPL.out]; simp; omega, HQ8, by rw [HPL.out]; exact HR3, HB8⟩
                case measure => rw [pileN_is HQ8.out, HPL.out, HPN.out, ← HN.out]; omega
end Go.Proofs.Ytndfoohdoadkfaa
