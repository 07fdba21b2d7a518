/- Walk of rect.Less. -/
import Derived.Test.YtjekoaodgdodjaaLS1
set_option linter.unusedVariables false
set_option linter.unusedSimpArgs false
namespace Go.Proofs.Ytjekoaodgdodjaa
open Go.RowKit
open Go.Proofs.YtjekoaodgdodjaaW.PrintWords (own_nil own_move own_lt pw_own_below)
set_option maxRecDepth 100000 in
set_option maxHeartbeats 8000000 in
theorem less_some (p q m : R4) (c : Nat → R4) (w : World) (hp : p.right = true) (he : p.empty = false) (hm' : meetF p q = m) (hm : m.right = true) (hme : m.empty = false) (C0 : c 0 = ⟨p.x, p.y, p.w, m.y - p.y⟩) (C1 : c 1 = ⟨p.x, m.y + m.h, p.w, p.y + p.h - (m.y + m.h)⟩) (C2 : c 2 = ⟨p.x, m.y, m.x - p.x, m.h⟩) (C3 : c 3 = ⟨m.x + m.w, m.y, p.x + p.w - (m.x + m.w), m.h⟩) :
    Calls Try.prog 25 #[.agg (RS p), .agg (RS q)] w (LessPost w (((List.range 4).map c).filter fun r => !r.empty)) := by
  obtain ⟨a1, a2, a3, a4, a5, a6, a7, a8⟩ := right_bd hp
  obtain ⟨b1, b2, b3, b4, b5, b6, b7, b8⟩ := right_bd hm
  have He := Lib.hid he
  have Hm := Lib.hid hm'
  have Hme := Lib.hid hme
  have H0 := Lib.hid C0
  have H1 := Lib.hid C1
  have H2 := Lib.hid C2
  have H3 := Lib.hid C3
  have HP := Lib.hid hp
  have HM := Lib.hid hm
  clear he hm' hme C0 C1 C2 C3 hp hm
  have hP : ((w.alloc (.cells (RS p) 24)).alloc (.cells (RS q) 24)).heap[w.heap.size]? = some (.cells (RS p) 24 (0, 0)) := (heap_alloc_old _ _ (by simp)).trans (heap_alloc_new w _)
  have hQ : ((w.alloc (.cells (RS p) 24)).alloc (.cells (RS q) 24)).heap[w.heap.size + 1]? = some (.cells (RS q) 24 (0, 0)) := heap_new_at (by simp)
  have hBW : Below w.heap.size w ((w.alloc (.cells (RS p) 24)).alloc (.cells (RS q) 24)) := below_alloc (below_alloc (Below.refl _ _) _) _
  go_enter Try.func25, Try.ntmps25
  go_wp2_with (first
    | (refine wpList_load_on (by rfl) 24 (.tmp 2) rfl _ rfl 24 (RS p) (0, 0) _ hP Try.underlying24 rfl (info24 _) ?_)
    | (refine wpList_load_on (by rfl) 24 (.tmp 3) rfl _ rfl 24 (RS q) (0, 0) _ hQ Try.underlying24 rfl (info24 _) ?_)
    | (refine wpList_load_on (by rfl) 24 (.tmp 5) rfl _ rfl 24 (RS m) (0, 0) _ hM Try.underlying24 rfl (info24 _) ?_)
    | (go_at_call 10; refine (meetR _ _ _).mono ?_; rintro e w1 ⟨rfl, hb⟩; rw [Hm.out]; replace hP := (hb.block _ (heap_lt hP)).trans hP; replace hBW := bel hBW hb; clear hb hQ)
    | (refine wpList_store_whole rfl 24 (.tmp 5) (.tmp 15) rfl ?g_s2 (RS m) ?c_s2 24 ?ha_s2 ?hb_s2 ?hc_s2 ?hd_s2 ?he_s2 ?hf_s2 ?_; (case ha_s2 => rfl); (case hb_s2 => rfl); (case hc_s2 => first | exact heap_alloc_new _ _ | (refine heap_new_at ?_; simp)); (case hd_s2 => rfl); (case he_s2 => exact info24 _); (case hf_s2 => kernel_rfl); intro w2 hM hs2 hfar hbel; go_must (replace hP := (hfar _ (Nat.ne_of_lt (heap_lt hP))).trans ((heap_alloc_old _ _ (heap_lt hP)).trans hP); replace hBW := hbel _ _ hBW.size (below_alloc hBW _); clear hfar hbel))
    | (go_at_call_of 12 (Value.agg (RS p)); refine (emptyR _ _).mono ?_; rintro e w3 ⟨rfl, hb⟩; have E := He.out; replace hBW := bel hBW hb; replace hP := (hb.block _ (heap_lt hP)).trans hP; replace hM := (hb.block _ (heap_lt hM)).trans hM; clear hb)
    | (go_at_call_of 12 (Value.agg (RS m)); refine (emptyR _ _).mono ?_; rintro e w4 ⟨rfl, hb⟩; have E := Hme.out; replace hBW := bel hBW hb; replace hP := (hb.block _ (heap_lt hP)).trans hP; replace hM := (hb.block _ (heap_lt hM)).trans hM; clear hb))
  clear hs2
  have hg5 : w1.heap.size < w4.heap.size := heap_lt hM
  obtain ⟨g5, Hg5⟩ : ∃ g5, g5 = w1.heap.size := ⟨_, rfl⟩
  rw [← Hg5] at hM hg5 ⊢
  have hgw : w.heap.size ≤ w4.heap.size := hBW.size
  clear Hg5
  refine drawn_st (w := w4) ([Lf.v (.agg (RS p)), Lf.v (.agg #[.int .i64 p.x, .int .i64 (p.x + p.w)]), Lf.v (.agg (RS p)), Lf.v (.agg #[.int .i64 p.y, .int .i64 (p.y + p.h)]), Lf.v (.agg (RS m)), Lf.v (.agg #[.int .i64 m.x, .int .i64 (m.x + m.w)]), Lf.v (.agg (RS m)), Lf.v (.agg #[.int .i64 m.y, .int .i64 (m.y + m.h)]), Lf.nw 73 #[.int .i64 0, .int .i64 0] #[.int .i64 p.x, .int .i64 (p.x + p.w)] 12, Lf.nw 73 #[.int .i64 0, .int .i64 0] #[.int .i64 p.y, .int .i64 (p.y + p.h)] 13, Lf.nw 73 #[.int .i64 0, .int .i64 0] #[.int .i64 m.x, .int .i64 (m.x + m.w)] 14, Lf.nw 73 #[.int .i64 0, .int .i64 0] #[.int .i64 m.y, .int .i64 (m.y + m.h)] 15, Lf.st 8, Lf.st 9, Lf.st 10, Lf.st 11] : List Lf) (by kernel_rfl) (by kernel_rfl) (by kernel_rfl) (by kernel_rfl) ?_ ?_ ?_ ?_
  · intro i_ v_ hi a_ W hs ho hB
    have hl := (List.getElem?_eq_some_iff.1 hi).1
    rcases (show i_ = 0 ∨ i_ = 1 ∨ i_ = 2 ∨ i_ = 3 ∨ i_ = 4 ∨ i_ = 5 ∨ i_ = 6 ∨ i_ = 7 ∨ i_ = 8 ∨ i_ = 9 ∨ i_ = 10 ∨ i_ = 11 ∨ i_ = 12 ∨ i_ = 13 ∨ i_ = 14 ∨ i_ = 15 by simp at hl; omega) with rfl | rfl | rfl | rfl | rfl | rfl | rfl | rfl | rfl | rfl | rfl | rfl | rfl | rfl | rfl | rfl
    · obtain rfl : (.agg (RS p)) = v_ := Lf.v.inj (Option.some.inj (show some (Lf.v (.agg (RS p))) = some (Lf.v v_) from hi))
      clear hi hl
      have e2 : a_.tmps[2]? = some (.pointer (some ⟨w.heap.size, 0, none⟩)) := (ho 2 (by kernel_rfl)).trans rfl
      refine ⟨_, rfl, fun KR hKR => ?_⟩
      rw [if_pos (show Region.wanted _ _ = true from rfl)]
      refine wp_load_row 24 (.tmp 2) rfl _ (by simp [Act.eval, e2]) 24 _ (0, 0) _ ((hB.block _ (heap_lt hP)).trans hP) Try.underlying24 rfl (info24 _) ?_
      exact hKR _ (Below.refl _ _)
    · obtain rfl : (.agg #[.int .i64 p.x, .int .i64 (p.x + p.w)]) = v_ := Lf.v.inj (Option.some.inj (show some (Lf.v (.agg #[.int .i64 p.x, .int .i64 (p.x + p.w)])) = some (Lf.v v_) from hi))
      clear hi hl
      have e24 : a_.tmps[24]? = some (.agg (RS p)) := hs 0 (by kernel_rfl) _ rfl 24 rfl
      refine ⟨_, rfl, fun KR hKR => ?_⟩
      rw [if_pos (show Region.wanted _ _ = true from rfl)]
      clear hs ho
      (go_simp; (go_at_call 40; refine (wideR _ HP.out _).mono ?_; rintro e w1 ⟨rfl, hb⟩); exact hKR _ hb)
    · obtain rfl : (.agg (RS p)) = v_ := Lf.v.inj (Option.some.inj (show some (Lf.v (.agg (RS p))) = some (Lf.v v_) from hi))
      clear hi hl
      have e2 : a_.tmps[2]? = some (.pointer (some ⟨w.heap.size, 0, none⟩)) := (ho 2 (by kernel_rfl)).trans rfl
      refine ⟨_, rfl, fun KR hKR => ?_⟩
      rw [if_pos (show Region.wanted _ _ = true from rfl)]
      refine wp_load_row 24 (.tmp 2) rfl _ (by simp [Act.eval, e2]) 24 _ (0, 0) _ ((hB.block _ (heap_lt hP)).trans hP) Try.underlying24 rfl (info24 _) ?_
      exact hKR _ (Below.refl _ _)
    · obtain rfl : (.agg #[.int .i64 p.y, .int .i64 (p.y + p.h)]) = v_ := Lf.v.inj (Option.some.inj (show some (Lf.v (.agg #[.int .i64 p.y, .int .i64 (p.y + p.h)])) = some (Lf.v v_) from hi))
      clear hi hl
      have e26 : a_.tmps[26]? = some (.agg (RS p)) := hs 2 (by kernel_rfl) _ rfl 26 rfl
      refine ⟨_, rfl, fun KR hKR => ?_⟩
      rw [if_pos (show Region.wanted _ _ = true from rfl)]
      clear hs ho
      (go_simp; (go_at_call 42; refine (tallR _ HP.out _).mono ?_; rintro e w1 ⟨rfl, hb⟩); exact hKR _ hb)
    · obtain rfl : (.agg (RS m)) = v_ := Lf.v.inj (Option.some.inj (show some (Lf.v (.agg (RS m))) = some (Lf.v v_) from hi))
      clear hi hl
      have e5 : a_.tmps[5]? = some (.pointer (some ⟨g5, 0, none⟩)) := (ho 5 (by kernel_rfl)).trans rfl
      refine ⟨_, rfl, fun KR hKR => ?_⟩
      rw [if_pos (show Region.wanted _ _ = true from rfl)]
      refine wp_load_row 24 (.tmp 5) rfl _ (by simp [Act.eval, e5]) 24 _ (0, 0) _ ((hB.block _ (heap_lt hM)).trans hM) Try.underlying24 rfl (info24 _) ?_
      exact hKR _ (Below.refl _ _)
    · obtain rfl : (.agg #[.int .i64 m.x, .int .i64 (m.x + m.w)]) = v_ := Lf.v.inj (Option.some.inj (show some (Lf.v (.agg #[.int .i64 m.x, .int .i64 (m.x + m.w)])) = some (Lf.v v_) from hi))
      clear hi hl
      have e28 : a_.tmps[28]? = some (.agg (RS m)) := hs 4 (by kernel_rfl) _ rfl 28 rfl
      refine ⟨_, rfl, fun KR hKR => ?_⟩
      rw [if_pos (show Region.wanted _ _ = true from rfl)]
      clear hs ho
      (go_simp; (go_at_call 40; refine (wideR _ HM.out _).mono ?_; rintro e w1 ⟨rfl, hb⟩); exact hKR _ hb)
    · obtain rfl : (.agg (RS m)) = v_ := Lf.v.inj (Option.some.inj (show some (Lf.v (.agg (RS m))) = some (Lf.v v_) from hi))
      clear hi hl
      have e5 : a_.tmps[5]? = some (.pointer (some ⟨g5, 0, none⟩)) := (ho 5 (by kernel_rfl)).trans rfl
      refine ⟨_, rfl, fun KR hKR => ?_⟩
      rw [if_pos (show Region.wanted _ _ = true from rfl)]
      refine wp_load_row 24 (.tmp 5) rfl _ (by simp [Act.eval, e5]) 24 _ (0, 0) _ ((hB.block _ (heap_lt hM)).trans hM) Try.underlying24 rfl (info24 _) ?_
      exact hKR _ (Below.refl _ _)
    · obtain rfl : (.agg #[.int .i64 m.y, .int .i64 (m.y + m.h)]) = v_ := Lf.v.inj (Option.some.inj (show some (Lf.v (.agg #[.int .i64 m.y, .int .i64 (m.y + m.h)])) = some (Lf.v v_) from hi))
      clear hi hl
      have e30 : a_.tmps[30]? = some (.agg (RS m)) := hs 6 (by kernel_rfl) _ rfl 30 rfl
      refine ⟨_, rfl, fun KR hKR => ?_⟩
      rw [if_pos (show Region.wanted _ _ = true from rfl)]
      clear hs ho
      (go_simp; (go_at_call 42; refine (tallR _ HM.out _).mono ?_; rintro e w1 ⟨rfl, hb⟩); exact hKR _ hb)
    · exact Lf.noConfusion (Option.some.inj (show some (Lf.nw 73 #[.int .i64 0, .int .i64 0] #[.int .i64 p.x, .int .i64 (p.x + p.w)] 12) = some (Lf.v v_) from hi))
    · exact Lf.noConfusion (Option.some.inj (show some (Lf.nw 73 #[.int .i64 0, .int .i64 0] #[.int .i64 p.y, .int .i64 (p.y + p.h)] 13) = some (Lf.v v_) from hi))
    · exact Lf.noConfusion (Option.some.inj (show some (Lf.nw 73 #[.int .i64 0, .int .i64 0] #[.int .i64 m.x, .int .i64 (m.x + m.w)] 14) = some (Lf.v v_) from hi))
    · exact Lf.noConfusion (Option.some.inj (show some (Lf.nw 73 #[.int .i64 0, .int .i64 0] #[.int .i64 m.y, .int .i64 (m.y + m.h)] 15) = some (Lf.v v_) from hi))
    · exact Lf.noConfusion (Option.some.inj (show some (Lf.st 8) = some (Lf.v v_) from hi))
    · exact Lf.noConfusion (Option.some.inj (show some (Lf.st 9) = some (Lf.v v_) from hi))
    · exact Lf.noConfusion (Option.some.inj (show some (Lf.st 10) = some (Lf.v v_) from hi))
    · exact Lf.noConfusion (Option.some.inj (show some (Lf.st 11) = some (Lf.v v_) from hi))
  · intro i_ T_ Z_ S_ k_ hi a_ W
    have hl := (List.getElem?_eq_some_iff.1 hi).1
    rcases (show i_ = 0 ∨ i_ = 1 ∨ i_ = 2 ∨ i_ = 3 ∨ i_ = 4 ∨ i_ = 5 ∨ i_ = 6 ∨ i_ = 7 ∨ i_ = 8 ∨ i_ = 9 ∨ i_ = 10 ∨ i_ = 11 ∨ i_ = 12 ∨ i_ = 13 ∨ i_ = 14 ∨ i_ = 15 by simp at hl; omega) with rfl | rfl | rfl | rfl | rfl | rfl | rfl | rfl | rfl | rfl | rfl | rfl | rfl | rfl | rfl | rfl
    · exact Lf.noConfusion (Option.some.inj (show some (Lf.v (.agg (RS p))) = some (Lf.nw T_ Z_ S_ k_) from hi))
    · exact Lf.noConfusion (Option.some.inj (show some (Lf.v (.agg #[.int .i64 p.x, .int .i64 (p.x + p.w)])) = some (Lf.nw T_ Z_ S_ k_) from hi))
    · exact Lf.noConfusion (Option.some.inj (show some (Lf.v (.agg (RS p))) = some (Lf.nw T_ Z_ S_ k_) from hi))
    · exact Lf.noConfusion (Option.some.inj (show some (Lf.v (.agg #[.int .i64 p.y, .int .i64 (p.y + p.h)])) = some (Lf.nw T_ Z_ S_ k_) from hi))
    · exact Lf.noConfusion (Option.some.inj (show some (Lf.v (.agg (RS m))) = some (Lf.nw T_ Z_ S_ k_) from hi))
    · exact Lf.noConfusion (Option.some.inj (show some (Lf.v (.agg #[.int .i64 m.x, .int .i64 (m.x + m.w)])) = some (Lf.nw T_ Z_ S_ k_) from hi))
    · exact Lf.noConfusion (Option.some.inj (show some (Lf.v (.agg (RS m))) = some (Lf.nw T_ Z_ S_ k_) from hi))
    · exact Lf.noConfusion (Option.some.inj (show some (Lf.v (.agg #[.int .i64 m.y, .int .i64 (m.y + m.h)])) = some (Lf.nw T_ Z_ S_ k_) from hi))
    · have h := Option.some.inj (show some (Lf.nw 73 #[.int .i64 0, .int .i64 0] #[.int .i64 p.x, .int .i64 (p.x + p.w)] 12) = some (Lf.nw T_ Z_ S_ k_) from hi)
      injection h with q1 q2 q3 q4
      subst q1 q2 q3 q4
      clear hi hl
      refine ⟨_, rfl, fun KR hKR => ?_⟩
      rw [if_pos (show Region.wanted _ _ = true from rfl)]
      go_simp
      exact hKR
    · have h := Option.some.inj (show some (Lf.nw 73 #[.int .i64 0, .int .i64 0] #[.int .i64 p.y, .int .i64 (p.y + p.h)] 13) = some (Lf.nw T_ Z_ S_ k_) from hi)
      injection h with q1 q2 q3 q4
      subst q1 q2 q3 q4
      clear hi hl
      refine ⟨_, rfl, fun KR hKR => ?_⟩
      rw [if_pos (show Region.wanted _ _ = true from rfl)]
      go_simp
      exact hKR
    · have h := Option.some.inj (show some (Lf.nw 73 #[.int .i64 0, .int .i64 0] #[.int .i64 m.x, .int .i64 (m.x + m.w)] 14) = some (Lf.nw T_ Z_ S_ k_) from hi)
      injection h with q1 q2 q3 q4
      subst q1 q2 q3 q4
      clear hi hl
      refine ⟨_, rfl, fun KR hKR => ?_⟩
      rw [if_pos (show Region.wanted _ _ = true from rfl)]
      go_simp
      exact hKR
    · have h := Option.some.inj (show some (Lf.nw 73 #[.int .i64 0, .int .i64 0] #[.int .i64 m.y, .int .i64 (m.y + m.h)] 15) = some (Lf.nw T_ Z_ S_ k_) from hi)
      injection h with q1 q2 q3 q4
      subst q1 q2 q3 q4
      clear hi hl
      refine ⟨_, rfl, fun KR hKR => ?_⟩
      rw [if_pos (show Region.wanted _ _ = true from rfl)]
      go_simp
      exact hKR
    · exact Lf.noConfusion (Option.some.inj (show some (Lf.st 8) = some (Lf.nw T_ Z_ S_ k_) from hi))
    · exact Lf.noConfusion (Option.some.inj (show some (Lf.st 9) = some (Lf.nw T_ Z_ S_ k_) from hi))
    · exact Lf.noConfusion (Option.some.inj (show some (Lf.st 10) = some (Lf.nw T_ Z_ S_ k_) from hi))
    · exact Lf.noConfusion (Option.some.inj (show some (Lf.st 11) = some (Lf.nw T_ Z_ S_ k_) from hi))
  · intro i_ m_ T_ Z_ S_ hi hm_ a_ W g_ hp_ hg hs
    have hl := (List.getElem?_eq_some_iff.1 hi).1
    rcases (show i_ = 0 ∨ i_ = 1 ∨ i_ = 2 ∨ i_ = 3 ∨ i_ = 4 ∨ i_ = 5 ∨ i_ = 6 ∨ i_ = 7 ∨ i_ = 8 ∨ i_ = 9 ∨ i_ = 10 ∨ i_ = 11 ∨ i_ = 12 ∨ i_ = 13 ∨ i_ = 14 ∨ i_ = 15 by simp at hl; omega) with rfl | rfl | rfl | rfl | rfl | rfl | rfl | rfl | rfl | rfl | rfl | rfl | rfl | rfl | rfl | rfl
    · exact Lf.noConfusion (Option.some.inj (show some (Lf.v (.agg (RS p))) = some (Lf.st m_) from hi))
    · exact Lf.noConfusion (Option.some.inj (show some (Lf.v (.agg #[.int .i64 p.x, .int .i64 (p.x + p.w)])) = some (Lf.st m_) from hi))
    · exact Lf.noConfusion (Option.some.inj (show some (Lf.v (.agg (RS p))) = some (Lf.st m_) from hi))
    · exact Lf.noConfusion (Option.some.inj (show some (Lf.v (.agg #[.int .i64 p.y, .int .i64 (p.y + p.h)])) = some (Lf.st m_) from hi))
    · exact Lf.noConfusion (Option.some.inj (show some (Lf.v (.agg (RS m))) = some (Lf.st m_) from hi))
    · exact Lf.noConfusion (Option.some.inj (show some (Lf.v (.agg #[.int .i64 m.x, .int .i64 (m.x + m.w)])) = some (Lf.st m_) from hi))
    · exact Lf.noConfusion (Option.some.inj (show some (Lf.v (.agg (RS m))) = some (Lf.st m_) from hi))
    · exact Lf.noConfusion (Option.some.inj (show some (Lf.v (.agg #[.int .i64 m.y, .int .i64 (m.y + m.h)])) = some (Lf.st m_) from hi))
    · exact Lf.noConfusion (Option.some.inj (show some (Lf.nw 73 #[.int .i64 0, .int .i64 0] #[.int .i64 p.x, .int .i64 (p.x + p.w)] 12) = some (Lf.st m_) from hi))
    · exact Lf.noConfusion (Option.some.inj (show some (Lf.nw 73 #[.int .i64 0, .int .i64 0] #[.int .i64 p.y, .int .i64 (p.y + p.h)] 13) = some (Lf.st m_) from hi))
    · exact Lf.noConfusion (Option.some.inj (show some (Lf.nw 73 #[.int .i64 0, .int .i64 0] #[.int .i64 m.x, .int .i64 (m.x + m.w)] 14) = some (Lf.st m_) from hi))
    · exact Lf.noConfusion (Option.some.inj (show some (Lf.nw 73 #[.int .i64 0, .int .i64 0] #[.int .i64 m.y, .int .i64 (m.y + m.h)] 15) = some (Lf.st m_) from hi))
    · obtain rfl : 8 = m_ := Lf.st.inj (Option.some.inj (show some (Lf.st 8) = some (Lf.st m_) from hi))
      have h := Option.some.inj (show some (Lf.nw 73 #[.int .i64 0, .int .i64 0] #[.int .i64 p.x, .int .i64 (p.x + p.w)] 12) = some (Lf.nw T_ Z_ S_ _) from hm_)
      injection h with q1 q2 q3 q4
      subst q1 q2 q3
      clear hi hm_ hl q4
      have e6 := hp_ 6 rfl
      have e25 : a_.tmps[25]? = some (.agg #[.int .i64 p.x, .int .i64 (p.x + p.w)]) := hs 1 (by kernel_rfl) _ rfl 25 rfl
      refine ⟨_, rfl, fun KR hKR => ?_⟩
      rw [if_pos (show Region.wanted _ _ = true from rfl)]
      exact wp_store_whole 73 (.tmp 6) (.tmp 25) rfl g_ (#[.int .i64 p.x, .int .i64 (p.x + p.w)]) (#[.int .i64 0, .int .i64 0]) 73 (by simp [Act.eval, e6]) (by simp [Act.eval, e25]) hg rfl (by kernel_rfl) (by kernel_rfl) (fun w1 k1 k2 k3 k4 => hKR _ w1 k1 k2 k3 k4)
    · obtain rfl : 9 = m_ := Lf.st.inj (Option.some.inj (show some (Lf.st 9) = some (Lf.st m_) from hi))
      have h := Option.some.inj (show some (Lf.nw 73 #[.int .i64 0, .int .i64 0] #[.int .i64 p.y, .int .i64 (p.y + p.h)] 13) = some (Lf.nw T_ Z_ S_ _) from hm_)
      injection h with q1 q2 q3 q4
      subst q1 q2 q3
      clear hi hm_ hl q4
      have e7 := hp_ 7 rfl
      have e27 : a_.tmps[27]? = some (.agg #[.int .i64 p.y, .int .i64 (p.y + p.h)]) := hs 3 (by kernel_rfl) _ rfl 27 rfl
      refine ⟨_, rfl, fun KR hKR => ?_⟩
      rw [if_pos (show Region.wanted _ _ = true from rfl)]
      exact wp_store_whole 73 (.tmp 7) (.tmp 27) rfl g_ (#[.int .i64 p.y, .int .i64 (p.y + p.h)]) (#[.int .i64 0, .int .i64 0]) 73 (by simp [Act.eval, e7]) (by simp [Act.eval, e27]) hg rfl (by kernel_rfl) (by kernel_rfl) (fun w1 k1 k2 k3 k4 => hKR _ w1 k1 k2 k3 k4)
    · obtain rfl : 10 = m_ := Lf.st.inj (Option.some.inj (show some (Lf.st 10) = some (Lf.st m_) from hi))
      have h := Option.some.inj (show some (Lf.nw 73 #[.int .i64 0, .int .i64 0] #[.int .i64 m.x, .int .i64 (m.x + m.w)] 14) = some (Lf.nw T_ Z_ S_ _) from hm_)
      injection h with q1 q2 q3 q4
      subst q1 q2 q3
      clear hi hm_ hl q4
      have e8 := hp_ 8 rfl
      have e29 : a_.tmps[29]? = some (.agg #[.int .i64 m.x, .int .i64 (m.x + m.w)]) := hs 5 (by kernel_rfl) _ rfl 29 rfl
      refine ⟨_, rfl, fun KR hKR => ?_⟩
      rw [if_pos (show Region.wanted _ _ = true from rfl)]
      exact wp_store_whole 73 (.tmp 8) (.tmp 29) rfl g_ (#[.int .i64 m.x, .int .i64 (m.x + m.w)]) (#[.int .i64 0, .int .i64 0]) 73 (by simp [Act.eval, e8]) (by simp [Act.eval, e29]) hg rfl (by kernel_rfl) (by kernel_rfl) (fun w1 k1 k2 k3 k4 => hKR _ w1 k1 k2 k3 k4)
    · obtain rfl : 11 = m_ := Lf.st.inj (Option.some.inj (show some (Lf.st 11) = some (Lf.st m_) from hi))
      have h := Option.some.inj (show some (Lf.nw 73 #[.int .i64 0, .int .i64 0] #[.int .i64 m.y, .int .i64 (m.y + m.h)] 15) = some (Lf.nw T_ Z_ S_ _) from hm_)
      injection h with q1 q2 q3 q4
      subst q1 q2 q3
      clear hi hm_ hl q4
      have e9 := hp_ 9 rfl
      have e31 : a_.tmps[31]? = some (.agg #[.int .i64 m.y, .int .i64 (m.y + m.h)]) := hs 7 (by kernel_rfl) _ rfl 31 rfl
      refine ⟨_, rfl, fun KR hKR => ?_⟩
      rw [if_pos (show Region.wanted _ _ = true from rfl)]
      exact wp_store_whole 73 (.tmp 9) (.tmp 31) rfl g_ (#[.int .i64 m.y, .int .i64 (m.y + m.h)]) (#[.int .i64 0, .int .i64 0]) 73 (by simp [Act.eval, e9]) (by simp [Act.eval, e31]) hg rfl (by kernel_rfl) (by kernel_rfl) (fun w1 k1 k2 k3 k4 => hKR _ w1 k1 k2 k3 k4)
  · intro b_ vals_ W hall hI
    have hB := hI.bel
    have v0 : vals_ 0 = .agg (RS p) := hI.has 0 (Nat.le_of_ble_eq_true rfl) (hall 0 (Nat.le_of_ble_eq_true rfl))
    have v1 : vals_ 1 = .agg #[.int .i64 p.x, .int .i64 (p.x + p.w)] := hI.has 1 (Nat.le_of_ble_eq_true rfl) (hall 1 (Nat.le_of_ble_eq_true rfl))
    have v2 : vals_ 2 = .agg (RS p) := hI.has 2 (Nat.le_of_ble_eq_true rfl) (hall 2 (Nat.le_of_ble_eq_true rfl))
    have v3 : vals_ 3 = .agg #[.int .i64 p.y, .int .i64 (p.y + p.h)] := hI.has 3 (Nat.le_of_ble_eq_true rfl) (hall 3 (Nat.le_of_ble_eq_true rfl))
    have v4 : vals_ 4 = .agg (RS m) := hI.has 4 (Nat.le_of_ble_eq_true rfl) (hall 4 (Nat.le_of_ble_eq_true rfl))
    have v5 : vals_ 5 = .agg #[.int .i64 m.x, .int .i64 (m.x + m.w)] := hI.has 5 (Nat.le_of_ble_eq_true rfl) (hall 5 (Nat.le_of_ble_eq_true rfl))
    have v6 : vals_ 6 = .agg (RS m) := hI.has 6 (Nat.le_of_ble_eq_true rfl) (hall 6 (Nat.le_of_ble_eq_true rfl))
    have v7 : vals_ 7 = .agg #[.int .i64 m.y, .int .i64 (m.y + m.h)] := hI.has 7 (Nat.le_of_ble_eq_true rfl) (hall 7 (Nat.le_of_ble_eq_true rfl))
    obtain ⟨g8, v8, hg8, hh8⟩ : ∃ g, vals_ 8 = .pointer (some ⟨g, 0, none⟩) ∧ w4.heap.size ≤ g ∧ W.heap[g]? = some (.cells #[.int .i64 p.x, .int .i64 (p.x + p.w)] 73 (0, 0)) := by
      have h := (show ∃ g, vals_ 8 = .pointer (some ⟨g, 0, none⟩) ∧ w4.heap.size ≤ g ∧ W.heap[g]? = some (.cells (if b_ 12 = true then #[.int .i64 p.x, .int .i64 (p.x + p.w)] else #[.int .i64 0, .int .i64 0]) 73 (0, 0)) from hI.has 8 (Nat.le_of_ble_eq_true rfl) (hall 8 (Nat.le_of_ble_eq_true rfl)))
      rw [if_pos (hall 12 (Nat.le_of_ble_eq_true rfl))] at h
      exact h
    obtain ⟨g9, v9, hg9, hh9⟩ : ∃ g, vals_ 9 = .pointer (some ⟨g, 0, none⟩) ∧ w4.heap.size ≤ g ∧ W.heap[g]? = some (.cells #[.int .i64 p.y, .int .i64 (p.y + p.h)] 73 (0, 0)) := by
      have h := (show ∃ g, vals_ 9 = .pointer (some ⟨g, 0, none⟩) ∧ w4.heap.size ≤ g ∧ W.heap[g]? = some (.cells (if b_ 13 = true then #[.int .i64 p.y, .int .i64 (p.y + p.h)] else #[.int .i64 0, .int .i64 0]) 73 (0, 0)) from hI.has 9 (Nat.le_of_ble_eq_true rfl) (hall 9 (Nat.le_of_ble_eq_true rfl)))
      rw [if_pos (hall 13 (Nat.le_of_ble_eq_true rfl))] at h
      exact h
    obtain ⟨g10, v10, hg10, hh10⟩ : ∃ g, vals_ 10 = .pointer (some ⟨g, 0, none⟩) ∧ w4.heap.size ≤ g ∧ W.heap[g]? = some (.cells #[.int .i64 m.x, .int .i64 (m.x + m.w)] 73 (0, 0)) := by
      have h := (show ∃ g, vals_ 10 = .pointer (some ⟨g, 0, none⟩) ∧ w4.heap.size ≤ g ∧ W.heap[g]? = some (.cells (if b_ 14 = true then #[.int .i64 m.x, .int .i64 (m.x + m.w)] else #[.int .i64 0, .int .i64 0]) 73 (0, 0)) from hI.has 10 (Nat.le_of_ble_eq_true rfl) (hall 10 (Nat.le_of_ble_eq_true rfl)))
      rw [if_pos (hall 14 (Nat.le_of_ble_eq_true rfl))] at h
      exact h
    obtain ⟨g11, v11, hg11, hh11⟩ : ∃ g, vals_ 11 = .pointer (some ⟨g, 0, none⟩) ∧ w4.heap.size ≤ g ∧ W.heap[g]? = some (.cells #[.int .i64 m.y, .int .i64 (m.y + m.h)] 73 (0, 0)) := by
      have h := (show ∃ g, vals_ 11 = .pointer (some ⟨g, 0, none⟩) ∧ w4.heap.size ≤ g ∧ W.heap[g]? = some (.cells (if b_ 15 = true then #[.int .i64 m.y, .int .i64 (m.y + m.h)] else #[.int .i64 0, .int .i64 0]) 73 (0, 0)) from hI.has 11 (Nat.le_of_ble_eq_true rfl) (hall 11 (Nat.le_of_ble_eq_true rfl)))
      rw [if_pos (hall 15 (Nat.le_of_ble_eq_true rfl))] at h
      exact h
    have n8_9 : g8 ≠ g9 := fun h => hI.apart 8 9 (Nat.le_of_ble_eq_true rfl) (Nat.le_of_ble_eq_true rfl) (by decide) (hall 8 (Nat.le_of_ble_eq_true rfl)) (hall 9 (Nat.le_of_ble_eq_true rfl)) rfl rfl (by rw [v8, v9, h])
    have n8_10 : g8 ≠ g10 := fun h => hI.apart 8 10 (Nat.le_of_ble_eq_true rfl) (Nat.le_of_ble_eq_true rfl) (by decide) (hall 8 (Nat.le_of_ble_eq_true rfl)) (hall 10 (Nat.le_of_ble_eq_true rfl)) rfl rfl (by rw [v8, v10, h])
    have n8_11 : g8 ≠ g11 := fun h => hI.apart 8 11 (Nat.le_of_ble_eq_true rfl) (Nat.le_of_ble_eq_true rfl) (by decide) (hall 8 (Nat.le_of_ble_eq_true rfl)) (hall 11 (Nat.le_of_ble_eq_true rfl)) rfl rfl (by rw [v8, v11, h])
    have n9_10 : g9 ≠ g10 := fun h => hI.apart 9 10 (Nat.le_of_ble_eq_true rfl) (Nat.le_of_ble_eq_true rfl) (by decide) (hall 9 (Nat.le_of_ble_eq_true rfl)) (hall 10 (Nat.le_of_ble_eq_true rfl)) rfl rfl (by rw [v9, v10, h])
    have n9_11 : g9 ≠ g11 := fun h => hI.apart 9 11 (Nat.le_of_ble_eq_true rfl) (Nat.le_of_ble_eq_true rfl) (by decide) (hall 9 (Nat.le_of_ble_eq_true rfl)) (hall 11 (Nat.le_of_ble_eq_true rfl)) rfl rfl (by rw [v9, v11, h])
    have n10_11 : g10 ≠ g11 := fun h => hI.apart 10 11 (Nat.le_of_ble_eq_true rfl) (Nat.le_of_ble_eq_true rfl) (by decide) (hall 10 (Nat.le_of_ble_eq_true rfl)) (hall 11 (Nat.le_of_ble_eq_true rfl)) rfl rfl (by rw [v10, v11, h])
    simp only [List.length_cons, List.length_nil, Nat.zero_add, Nat.reduceAdd, List.size_toArray, slots, if_true, dstOf, List.getElem?_toArray, List.getElem?_cons_zero, List.getElem?_cons_succ, Option.bind_some, Act.put, List.setIfInBounds_toArray, List.set_cons_zero, List.set_cons_succ, v0, v1, v2, v3, v4, v5, v6, v7, v8, v9, v10, v11]
    clear hI hall v0 v1 v2 v3 v4 v5 v6 v7 v8 v9 v10 v11
    change wpAny _ _ _ _ 0 _ _ _
    refine wpAny_done (by kernel_rfl) ?_ _
    have hP := (hB.block _ (heap_lt hP)).trans hP
    have hM := (hB.block _ (heap_lt hM)).trans hM
    have hBW := bel hBW hB
    obtain ⟨W6, rfl⟩ : ∃ W6, W6 = W := ⟨_, rfl⟩
    go_wp2
    refine drawn_st (w := W6) ([Lf.v (.agg #[.int .i64 p.x, .int .i64 (p.x + p.w)]), Lf.v (.pointer (some ⟨g9, 0, none⟩)), Lf.v (.int .i64 p.y), Lf.v (.pointer (some ⟨g11, 0, none⟩)), Lf.v (.int .i64 m.y), Lf.v (.agg #[.int .i64 p.y, .int .i64 m.y]), Lf.v (.agg (RS (c 0))), Lf.v (.agg #[.int .i64 p.x, .int .i64 (p.x + p.w)]), Lf.v (.pointer (some ⟨g11, 1, none⟩)), Lf.v (.int .i64 (m.y + m.h)), Lf.v (.pointer (some ⟨g9, 1, none⟩)), Lf.v (.int .i64 (p.y + p.h)), Lf.v (.agg #[.int .i64 (m.y + m.h), .int .i64 (p.y + p.h)]), Lf.v (.agg (RS (c 1))), Lf.v (.pointer (some ⟨g8, 0, none⟩)), Lf.v (.int .i64 p.x), Lf.v (.pointer (some ⟨g10, 0, none⟩)), Lf.v (.int .i64 m.x), Lf.v (.agg #[.int .i64 p.x, .int .i64 m.x]), Lf.v (.agg #[.int .i64 m.y, .int .i64 (m.y + m.h)]), Lf.v (.agg (RS (c 2))), Lf.v (.pointer (some ⟨g10, 1, none⟩)), Lf.v (.int .i64 (m.x + m.w)), Lf.v (.pointer (some ⟨g8, 1, none⟩)), Lf.v (.int .i64 (p.x + p.w)), Lf.v (.agg #[.int .i64 (m.x + m.w), .int .i64 (p.x + p.w)]), Lf.v (.agg #[.int .i64 m.y, .int .i64 (m.y + m.h)]), Lf.v (.agg (RS (c 3))), Lf.v (.agg (PS4 c)), Lf.v (.int .i64 0)] : List Lf) (by kernel_rfl) (by kernel_rfl) (by kernel_rfl) (by kernel_rfl) ?_ ?_ ?_ ?_
    · intro i_ v_ hi a_ W hs ho hB
      have hl := (List.getElem?_eq_some_iff.1 hi).1
      rcases (show i_ = 0 ∨ i_ = 1 ∨ i_ = 2 ∨ i_ = 3 ∨ i_ = 4 ∨ i_ = 5 ∨ i_ = 6 ∨ i_ = 7 ∨ i_ = 8 ∨ i_ = 9 ∨ i_ = 10 ∨ i_ = 11 ∨ i_ = 12 ∨ i_ = 13 ∨ i_ = 14 ∨ i_ = 15 ∨ i_ = 16 ∨ i_ = 17 ∨ i_ = 18 ∨ i_ = 19 ∨ i_ = 20 ∨ i_ = 21 ∨ i_ = 22 ∨ i_ = 23 ∨ i_ = 24 ∨ i_ = 25 ∨ i_ = 26 ∨ i_ = 27 ∨ i_ = 28 ∨ i_ = 29 by simp at hl; omega) with rfl | rfl | rfl | rfl | rfl | rfl | rfl | rfl | rfl | rfl | rfl | rfl | rfl | rfl | rfl | rfl | rfl | rfl | rfl | rfl | rfl | rfl | rfl | rfl | rfl | rfl | rfl | rfl | rfl | rfl
      · obtain rfl : (.agg #[.int .i64 p.x, .int .i64 (p.x + p.w)]) = v_ := Lf.v.inj (Option.some.inj (show some (Lf.v (.agg #[.int .i64 p.x, .int .i64 (p.x + p.w)])) = some (Lf.v v_) from hi))
        clear hi hl
        have e6 : a_.tmps[6]? = some (.pointer (some ⟨g8, 0, none⟩)) := (ho 6 (by kernel_rfl)).trans rfl
        refine ⟨_, rfl, fun KR hKR => ?_⟩
        rw [if_pos (show Region.wanted _ _ = true from rfl)]
        refine wp_load_row 73 (.tmp 6) rfl _ (by simp [Act.eval, e6]) 73 _ (0, 0) _ ((hB.block _ (heap_lt hh8)).trans hh8) Try.underlying73 rfl (by kernel_rfl) ?_
        exact hKR _ (Below.refl _ _)
      · obtain rfl : (.pointer (some ⟨g9, 0, none⟩)) = v_ := Lf.v.inj (Option.some.inj (show some (Lf.v (.pointer (some ⟨g9, 0, none⟩))) = some (Lf.v v_) from hi))
        clear hi hl
        have e7 : a_.tmps[7]? = some (.pointer (some ⟨g9, 0, none⟩)) := (ho 7 (by kernel_rfl)).trans rfl
        refine ⟨_, rfl, fun KR hKR => ?_⟩
        rw [if_pos (show Region.wanted _ _ = true from rfl)]
        clear hs ho
        go_simp
        exact hKR _ (Below.refl _ _)
      · obtain rfl : (.int .i64 p.y) = v_ := Lf.v.inj (Option.some.inj (show some (Lf.v (.int .i64 p.y)) = some (Lf.v v_) from hi))
        clear hi hl
        have e33 : a_.tmps[33]? = some (.pointer (some ⟨g9, 0, none⟩)) := hs 1 (by kernel_rfl) _ rfl 33 rfl
        refine ⟨_, rfl, fun KR hKR => ?_⟩
        rw [if_pos (show Region.wanted _ _ = true from rfl)]
        have c := cell_of_heap ((hB.block _ (heap_lt hh9)).trans hh9) (j := 0) (v := .int .i64 p.y) rfl
        clear hs ho
        go_simp
        exact hKR _ (Below.refl _ _)
      · obtain rfl : (.pointer (some ⟨g11, 0, none⟩)) = v_ := Lf.v.inj (Option.some.inj (show some (Lf.v (.pointer (some ⟨g11, 0, none⟩))) = some (Lf.v v_) from hi))
        clear hi hl
        have e9 : a_.tmps[9]? = some (.pointer (some ⟨g11, 0, none⟩)) := (ho 9 (by kernel_rfl)).trans rfl
        refine ⟨_, rfl, fun KR hKR => ?_⟩
        rw [if_pos (show Region.wanted _ _ = true from rfl)]
        clear hs ho
        go_simp
        exact hKR _ (Below.refl _ _)
      · obtain rfl : (.int .i64 m.y) = v_ := Lf.v.inj (Option.some.inj (show some (Lf.v (.int .i64 m.y)) = some (Lf.v v_) from hi))
        clear hi hl
        have e35 : a_.tmps[35]? = some (.pointer (some ⟨g11, 0, none⟩)) := hs 3 (by kernel_rfl) _ rfl 35 rfl
        refine ⟨_, rfl, fun KR hKR => ?_⟩
        rw [if_pos (show Region.wanted _ _ = true from rfl)]
        have c := cell_of_heap ((hB.block _ (heap_lt hh11)).trans hh11) (j := 0) (v := .int .i64 m.y) rfl
        clear hs ho
        go_simp
        exact hKR _ (Below.refl _ _)
      · obtain rfl : (.agg #[.int .i64 p.y, .int .i64 m.y]) = v_ := Lf.v.inj (Option.some.inj (show some (Lf.v (.agg #[.int .i64 p.y, .int .i64 m.y])) = some (Lf.v v_) from hi))
        clear hi hl
        have e34 : a_.tmps[34]? = some (.int .i64 p.y) := hs 2 (by kernel_rfl) _ rfl 34 rfl
        have e36 : a_.tmps[36]? = some (.int .i64 m.y) := hs 4 (by kernel_rfl) _ rfl 36 rfl
        refine ⟨_, rfl, fun KR hKR => ?_⟩
        rw [if_pos (show Region.wanted _ _ = true from rfl)]
        clear hs ho
        go_simp
        exact hKR _ (Below.refl _ _)
      · obtain rfl : (.agg (RS (c 0))) = v_ := Lf.v.inj (Option.some.inj (show some (Lf.v (.agg (RS (c 0)))) = some (Lf.v v_) from hi))
        clear hi hl
        have e32 : a_.tmps[32]? = some (.agg #[.int .i64 p.x, .int .i64 (p.x + p.w)]) := hs 0 (by kernel_rfl) _ rfl 32 rfl
        have e37 : a_.tmps[37]? = some (.agg #[.int .i64 p.y, .int .i64 m.y]) := hs 5 (by kernel_rfl) _ rfl 37 rfl
        refine ⟨_, rfl, fun KR hKR => ?_⟩
        rw [if_pos (show Region.wanted _ _ = true from rfl)]
        clear hs ho
        (go_simp; (go_at_call 44; refine (ofR _ _ _ _ (c 0) _ ?_ ?_ ?_ ?_ ?_ ?_ ?_ ?_).mono ?_; rotate_right; (rintro e w1 ⟨rfl, hb⟩; exact hKR _ hb); all_goals (have C0 := H0.out; have C1 := H1.out; have C2 := H2.out; have C3 := H3.out; first | omega | (simp only [C0, C1, C2, C3]; done) | (simp only [C0, C1, C2, C3]; omega))))
      · obtain rfl : (.agg #[.int .i64 p.x, .int .i64 (p.x + p.w)]) = v_ := Lf.v.inj (Option.some.inj (show some (Lf.v (.agg #[.int .i64 p.x, .int .i64 (p.x + p.w)])) = some (Lf.v v_) from hi))
        clear hi hl
        have e6 : a_.tmps[6]? = some (.pointer (some ⟨g8, 0, none⟩)) := (ho 6 (by kernel_rfl)).trans rfl
        refine ⟨_, rfl, fun KR hKR => ?_⟩
        rw [if_pos (show Region.wanted _ _ = true from rfl)]
        refine wp_load_row 73 (.tmp 6) rfl _ (by simp [Act.eval, e6]) 73 _ (0, 0) _ ((hB.block _ (heap_lt hh8)).trans hh8) Try.underlying73 rfl (by kernel_rfl) ?_
        exact hKR _ (Below.refl _ _)
      · obtain rfl : (.pointer (some ⟨g11, 1, none⟩)) = v_ := Lf.v.inj (Option.some.inj (show some (Lf.v (.pointer (some ⟨g11, 1, none⟩))) = some (Lf.v v_) from hi))
        clear hi hl
        have e9 : a_.tmps[9]? = some (.pointer (some ⟨g11, 0, none⟩)) := (ho 9 (by kernel_rfl)).trans rfl
        refine ⟨_, rfl, fun KR hKR => ?_⟩
        rw [if_pos (show Region.wanted _ _ = true from rfl)]
        clear hs ho
        go_simp
        exact hKR _ (Below.refl _ _)
      · obtain rfl : (.int .i64 (m.y + m.h)) = v_ := Lf.v.inj (Option.some.inj (show some (Lf.v (.int .i64 (m.y + m.h))) = some (Lf.v v_) from hi))
        clear hi hl
        have e40 : a_.tmps[40]? = some (.pointer (some ⟨g11, 1, none⟩)) := hs 8 (by kernel_rfl) _ rfl 40 rfl
        refine ⟨_, rfl, fun KR hKR => ?_⟩
        rw [if_pos (show Region.wanted _ _ = true from rfl)]
        have c := cell_of_heap ((hB.block _ (heap_lt hh11)).trans hh11) (j := 1) (v := .int .i64 (m.y + m.h)) rfl
        clear hs ho
        go_simp
        exact hKR _ (Below.refl _ _)
      · obtain rfl : (.pointer (some ⟨g9, 1, none⟩)) = v_ := Lf.v.inj (Option.some.inj (show some (Lf.v (.pointer (some ⟨g9, 1, none⟩))) = some (Lf.v v_) from hi))
        clear hi hl
        have e7 : a_.tmps[7]? = some (.pointer (some ⟨g9, 0, none⟩)) := (ho 7 (by kernel_rfl)).trans rfl
        refine ⟨_, rfl, fun KR hKR => ?_⟩
        rw [if_pos (show Region.wanted _ _ = true from rfl)]
        clear hs ho
        go_simp
        exact hKR _ (Below.refl _ _)
      · obtain rfl : (.int .i64 (p.y + p.h)) = v_ := Lf.v.inj (Option.some.inj (show some (Lf.v (.int .i64 (p.y + p.h))) = some (Lf.v v_) from hi))
        clear hi hl
        have e42 : a_.tmps[42]? = some (.pointer (some ⟨g9, 1, none⟩)) := hs 10 (by kernel_rfl) _ rfl 42 rfl
        refine ⟨_, rfl, fun KR hKR => ?_⟩
        rw [if_pos (show Region.wanted _ _ = true from rfl)]
        have c := cell_of_heap ((hB.block _ (heap_lt hh9)).trans hh9) (j := 1) (v := .int .i64 (p.y + p.h)) rfl
        clear hs ho
        go_simp
        exact hKR _ (Below.refl _ _)
      · obtain rfl : (.agg #[.int .i64 (m.y + m.h), .int .i64 (p.y + p.h)]) = v_ := Lf.v.inj (Option.some.inj (show some (Lf.v (.agg #[.int .i64 (m.y + m.h), .int .i64 (p.y + p.h)])) = some (Lf.v v_) from hi))
        clear hi hl
        have e41 : a_.tmps[41]? = some (.int .i64 (m.y + m.h)) := hs 9 (by kernel_rfl) _ rfl 41 rfl
        have e43 : a_.tmps[43]? = some (.int .i64 (p.y + p.h)) := hs 11 (by kernel_rfl) _ rfl 43 rfl
        refine ⟨_, rfl, fun KR hKR => ?_⟩
        rw [if_pos (show Region.wanted _ _ = true from rfl)]
        clear hs ho
        go_simp
        exact hKR _ (Below.refl _ _)
      · obtain rfl : (.agg (RS (c 1))) = v_ := Lf.v.inj (Option.some.inj (show some (Lf.v (.agg (RS (c 1)))) = some (Lf.v v_) from hi))
        clear hi hl
        have e39 : a_.tmps[39]? = some (.agg #[.int .i64 p.x, .int .i64 (p.x + p.w)]) := hs 7 (by kernel_rfl) _ rfl 39 rfl
        have e44 : a_.tmps[44]? = some (.agg #[.int .i64 (m.y + m.h), .int .i64 (p.y + p.h)]) := hs 12 (by kernel_rfl) _ rfl 44 rfl
        refine ⟨_, rfl, fun KR hKR => ?_⟩
        rw [if_pos (show Region.wanted _ _ = true from rfl)]
        clear hs ho
        (go_simp; (go_at_call 44; refine (ofR _ _ _ _ (c 1) _ ?_ ?_ ?_ ?_ ?_ ?_ ?_ ?_).mono ?_; rotate_right; (rintro e w1 ⟨rfl, hb⟩; exact hKR _ hb); all_goals (have C0 := H0.out; have C1 := H1.out; have C2 := H2.out; have C3 := H3.out; first | omega | (simp only [C0, C1, C2, C3]; done) | (simp only [C0, C1, C2, C3]; omega))))
      · obtain rfl : (.pointer (some ⟨g8, 0, none⟩)) = v_ := Lf.v.inj (Option.some.inj (show some (Lf.v (.pointer (some ⟨g8, 0, none⟩))) = some (Lf.v v_) from hi))
        clear hi hl
        have e6 : a_.tmps[6]? = some (.pointer (some ⟨g8, 0, none⟩)) := (ho 6 (by kernel_rfl)).trans rfl
        refine ⟨_, rfl, fun KR hKR => ?_⟩
        rw [if_pos (show Region.wanted _ _ = true from rfl)]
        clear hs ho
        go_simp
        exact hKR _ (Below.refl _ _)
      · obtain rfl : (.int .i64 p.x) = v_ := Lf.v.inj (Option.some.inj (show some (Lf.v (.int .i64 p.x)) = some (Lf.v v_) from hi))
        clear hi hl
        have e46 : a_.tmps[46]? = some (.pointer (some ⟨g8, 0, none⟩)) := hs 14 (by kernel_rfl) _ rfl 46 rfl
        refine ⟨_, rfl, fun KR hKR => ?_⟩
        rw [if_pos (show Region.wanted _ _ = true from rfl)]
        have c := cell_of_heap ((hB.block _ (heap_lt hh8)).trans hh8) (j := 0) (v := .int .i64 p.x) rfl
        clear hs ho
        go_simp
        exact hKR _ (Below.refl _ _)
      · obtain rfl : (.pointer (some ⟨g10, 0, none⟩)) = v_ := Lf.v.inj (Option.some.inj (show some (Lf.v (.pointer (some ⟨g10, 0, none⟩))) = some (Lf.v v_) from hi))
        clear hi hl
        have e8 : a_.tmps[8]? = some (.pointer (some ⟨g10, 0, none⟩)) := (ho 8 (by kernel_rfl)).trans rfl
        refine ⟨_, rfl, fun KR hKR => ?_⟩
        rw [if_pos (show Region.wanted _ _ = true from rfl)]
        clear hs ho
        go_simp
        exact hKR _ (Below.refl _ _)
      · obtain rfl : (.int .i64 m.x) = v_ := Lf.v.inj (Option.some.inj (show some (Lf.v (.int .i64 m.x)) = some (Lf.v v_) from hi))
        clear hi hl
        have e48 : a_.tmps[48]? = some (.pointer (some ⟨g10, 0, none⟩)) := hs 16 (by kernel_rfl) _ rfl 48 rfl
        refine ⟨_, rfl, fun KR hKR => ?_⟩
        rw [if_pos (show Region.wanted _ _ = true from rfl)]
        have c := cell_of_heap ((hB.block _ (heap_lt hh10)).trans hh10) (j := 0) (v := .int .i64 m.x) rfl
        clear hs ho
        go_simp
        exact hKR _ (Below.refl _ _)
      · obtain rfl : (.agg #[.int .i64 p.x, .int .i64 m.x]) = v_ := Lf.v.inj (Option.some.inj (show some (Lf.v (.agg #[.int .i64 p.x, .int .i64 m.x])) = some (Lf.v v_) from hi))
        clear hi hl
        have e47 : a_.tmps[47]? = some (.int .i64 p.x) := hs 15 (by kernel_rfl) _ rfl 47 rfl
        have e49 : a_.tmps[49]? = some (.int .i64 m.x) := hs 17 (by kernel_rfl) _ rfl 49 rfl
        refine ⟨_, rfl, fun KR hKR => ?_⟩
        rw [if_pos (show Region.wanted _ _ = true from rfl)]
        clear hs ho
        go_simp
        exact hKR _ (Below.refl _ _)
      · obtain rfl : (.agg #[.int .i64 m.y, .int .i64 (m.y + m.h)]) = v_ := Lf.v.inj (Option.some.inj (show some (Lf.v (.agg #[.int .i64 m.y, .int .i64 (m.y + m.h)])) = some (Lf.v v_) from hi))
        clear hi hl
        have e9 : a_.tmps[9]? = some (.pointer (some ⟨g11, 0, none⟩)) := (ho 9 (by kernel_rfl)).trans rfl
        refine ⟨_, rfl, fun KR hKR => ?_⟩
        rw [if_pos (show Region.wanted _ _ = true from rfl)]
        refine wp_load_row 73 (.tmp 9) rfl _ (by simp [Act.eval, e9]) 73 _ (0, 0) _ ((hB.block _ (heap_lt hh11)).trans hh11) Try.underlying73 rfl (by kernel_rfl) ?_
        exact hKR _ (Below.refl _ _)
      · obtain rfl : (.agg (RS (c 2))) = v_ := Lf.v.inj (Option.some.inj (show some (Lf.v (.agg (RS (c 2)))) = some (Lf.v v_) from hi))
        clear hi hl
        have e50 : a_.tmps[50]? = some (.agg #[.int .i64 p.x, .int .i64 m.x]) := hs 18 (by kernel_rfl) _ rfl 50 rfl
        have e51 : a_.tmps[51]? = some (.agg #[.int .i64 m.y, .int .i64 (m.y + m.h)]) := hs 19 (by kernel_rfl) _ rfl 51 rfl
        refine ⟨_, rfl, fun KR hKR => ?_⟩
        rw [if_pos (show Region.wanted _ _ = true from rfl)]
        clear hs ho
        (go_simp; (go_at_call 44; refine (ofR _ _ _ _ (c 2) _ ?_ ?_ ?_ ?_ ?_ ?_ ?_ ?_).mono ?_; rotate_right; (rintro e w1 ⟨rfl, hb⟩; exact hKR _ hb); all_goals (have C0 := H0.out; have C1 := H1.out; have C2 := H2.out; have C3 := H3.out; first | omega | (simp only [C0, C1, C2, C3]; done) | (simp only [C0, C1, C2, C3]; omega))))
      · obtain rfl : (.pointer (some ⟨g10, 1, none⟩)) = v_ := Lf.v.inj (Option.some.inj (show some (Lf.v (.pointer (some ⟨g10, 1, none⟩))) = some (Lf.v v_) from hi))
        clear hi hl
        have e8 : a_.tmps[8]? = some (.pointer (some ⟨g10, 0, none⟩)) := (ho 8 (by kernel_rfl)).trans rfl
        refine ⟨_, rfl, fun KR hKR => ?_⟩
        rw [if_pos (show Region.wanted _ _ = true from rfl)]
        clear hs ho
        go_simp
        exact hKR _ (Below.refl _ _)
      · obtain rfl : (.int .i64 (m.x + m.w)) = v_ := Lf.v.inj (Option.some.inj (show some (Lf.v (.int .i64 (m.x + m.w))) = some (Lf.v v_) from hi))
        clear hi hl
        have e53 : a_.tmps[53]? = some (.pointer (some ⟨g10, 1, none⟩)) := hs 21 (by kernel_rfl) _ rfl 53 rfl
        refine ⟨_, rfl, fun KR hKR => ?_⟩
        rw [if_pos (show Region.wanted _ _ = true from rfl)]
        have c := cell_of_heap ((hB.block _ (heap_lt hh10)).trans hh10) (j := 1) (v := .int .i64 (m.x + m.w)) rfl
        clear hs ho
        go_simp
        exact hKR _ (Below.refl _ _)
      · obtain rfl : (.pointer (some ⟨g8, 1, none⟩)) = v_ := Lf.v.inj (Option.some.inj (show some (Lf.v (.pointer (some ⟨g8, 1, none⟩))) = some (Lf.v v_) from hi))
        clear hi hl
        have e6 : a_.tmps[6]? = some (.pointer (some ⟨g8, 0, none⟩)) := (ho 6 (by kernel_rfl)).trans rfl
        refine ⟨_, rfl, fun KR hKR => ?_⟩
        rw [if_pos (show Region.wanted _ _ = true from rfl)]
        clear hs ho
        go_simp
        exact hKR _ (Below.refl _ _)
      · obtain rfl : (.int .i64 (p.x + p.w)) = v_ := Lf.v.inj (Option.some.inj (show some (Lf.v (.int .i64 (p.x + p.w))) = some (Lf.v v_) from hi))
        clear hi hl
        have e55 : a_.tmps[55]? = some (.pointer (some ⟨g8, 1, none⟩)) := hs 23 (by kernel_rfl) _ rfl 55 rfl
        refine ⟨_, rfl, fun KR hKR => ?_⟩
        rw [if_pos (show Region.wanted _ _ = true from rfl)]
        have c := cell_of_heap ((hB.block _ (heap_lt hh8)).trans hh8) (j := 1) (v := .int .i64 (p.x + p.w)) rfl
        clear hs ho
        go_simp
        exact hKR _ (Below.refl _ _)
      · obtain rfl : (.agg #[.int .i64 (m.x + m.w), .int .i64 (p.x + p.w)]) = v_ := Lf.v.inj (Option.some.inj (show some (Lf.v (.agg #[.int .i64 (m.x + m.w), .int .i64 (p.x + p.w)])) = some (Lf.v v_) from hi))
        clear hi hl
        have e54 : a_.tmps[54]? = some (.int .i64 (m.x + m.w)) := hs 22 (by kernel_rfl) _ rfl 54 rfl
        have e56 : a_.tmps[56]? = some (.int .i64 (p.x + p.w)) := hs 24 (by kernel_rfl) _ rfl 56 rfl
        refine ⟨_, rfl, fun KR hKR => ?_⟩
        rw [if_pos (show Region.wanted _ _ = true from rfl)]
        clear hs ho
        go_simp
        exact hKR _ (Below.refl _ _)
      · obtain rfl : (.agg #[.int .i64 m.y, .int .i64 (m.y + m.h)]) = v_ := Lf.v.inj (Option.some.inj (show some (Lf.v (.agg #[.int .i64 m.y, .int .i64 (m.y + m.h)])) = some (Lf.v v_) from hi))
        clear hi hl
        have e9 : a_.tmps[9]? = some (.pointer (some ⟨g11, 0, none⟩)) := (ho 9 (by kernel_rfl)).trans rfl
        refine ⟨_, rfl, fun KR hKR => ?_⟩
        rw [if_pos (show Region.wanted _ _ = true from rfl)]
        refine wp_load_row 73 (.tmp 9) rfl _ (by simp [Act.eval, e9]) 73 _ (0, 0) _ ((hB.block _ (heap_lt hh11)).trans hh11) Try.underlying73 rfl (by kernel_rfl) ?_
        exact hKR _ (Below.refl _ _)
      · obtain rfl : (.agg (RS (c 3))) = v_ := Lf.v.inj (Option.some.inj (show some (Lf.v (.agg (RS (c 3)))) = some (Lf.v v_) from hi))
        clear hi hl
        have e57 : a_.tmps[57]? = some (.agg #[.int .i64 (m.x + m.w), .int .i64 (p.x + p.w)]) := hs 25 (by kernel_rfl) _ rfl 57 rfl
        have e58 : a_.tmps[58]? = some (.agg #[.int .i64 m.y, .int .i64 (m.y + m.h)]) := hs 26 (by kernel_rfl) _ rfl 58 rfl
        refine ⟨_, rfl, fun KR hKR => ?_⟩
        rw [if_pos (show Region.wanted _ _ = true from rfl)]
        clear hs ho
        (go_simp; (go_at_call 44; refine (ofR _ _ _ _ (c 3) _ ?_ ?_ ?_ ?_ ?_ ?_ ?_ ?_).mono ?_; rotate_right; (rintro e w1 ⟨rfl, hb⟩; exact hKR _ hb); all_goals (have C0 := H0.out; have C1 := H1.out; have C2 := H2.out; have C3 := H3.out; first | omega | (simp only [C0, C1, C2, C3]; done) | (simp only [C0, C1, C2, C3]; omega))))
      · obtain rfl : (.agg (PS4 c)) = v_ := Lf.v.inj (Option.some.inj (show some (Lf.v (.agg (PS4 c))) = some (Lf.v v_) from hi))
        clear hi hl
        have e38 : a_.tmps[38]? = some (.agg (RS (c 0))) := hs 6 (by kernel_rfl) _ rfl 38 rfl
        have e45 : a_.tmps[45]? = some (.agg (RS (c 1))) := hs 13 (by kernel_rfl) _ rfl 45 rfl
        have e52 : a_.tmps[52]? = some (.agg (RS (c 2))) := hs 20 (by kernel_rfl) _ rfl 52 rfl
        have e59 : a_.tmps[59]? = some (.agg (RS (c 3))) := hs 27 (by kernel_rfl) _ rfl 59 rfl
        refine ⟨_, rfl, fun KR hKR => ?_⟩
        rw [if_pos (show Region.wanted _ _ = true from rfl)]
        clear hs ho
        exact wp_of_run (exec_build rfl (by simp only [List.map_cons, List.map_nil, Act.eval, Array.getD_eq_getD_getElem?, e38, e45, e52, e59, Option.getD_some]; exact bd89 c W)) (hKR _ (Below.refl _ _))
      · obtain rfl : (.int .i64 0) = v_ := Lf.v.inj (Option.some.inj (show some (Lf.v (.int .i64 0)) = some (Lf.v v_) from hi))
        clear hi hl
        refine ⟨_, rfl, fun KR hKR => ?_⟩
        rw [if_pos (show Region.wanted _ _ = true from rfl)]
        clear hs ho
        go_simp
        exact hKR _ (Below.refl _ _)
    · intro i_ T_ Z_ S_ k_ hi a_ W
      have hl := (List.getElem?_eq_some_iff.1 hi).1
      rcases (show i_ = 0 ∨ i_ = 1 ∨ i_ = 2 ∨ i_ = 3 ∨ i_ = 4 ∨ i_ = 5 ∨ i_ = 6 ∨ i_ = 7 ∨ i_ = 8 ∨ i_ = 9 ∨ i_ = 10 ∨ i_ = 11 ∨ i_ = 12 ∨ i_ = 13 ∨ i_ = 14 ∨ i_ = 15 ∨ i_ = 16 ∨ i_ = 17 ∨ i_ = 18 ∨ i_ = 19 ∨ i_ = 20 ∨ i_ = 21 ∨ i_ = 22 ∨ i_ = 23 ∨ i_ = 24 ∨ i_ = 25 ∨ i_ = 26 ∨ i_ = 27 ∨ i_ = 28 ∨ i_ = 29 by simp at hl; omega) with rfl | rfl | rfl | rfl | rfl | rfl | rfl | rfl | rfl | rfl | rfl | rfl | rfl | rfl | rfl | rfl | rfl | rfl | rfl | rfl | rfl | rfl | rfl | rfl | rfl | rfl | rfl | rfl | rfl | rfl
      · exact Lf.noConfusion (Option.some.inj (show some (Lf.v (.agg #[.int .i64 p.x, .int .i64 (p.x + p.w)])) = some (Lf.nw T_ Z_ S_ k_) from hi))
      · exact Lf.noConfusion (Option.some.inj (show some (Lf.v (.pointer (some ⟨g9, 0, none⟩))) = some (Lf.nw T_ Z_ S_ k_) from hi))
      · exact Lf.noConfusion (Option.some.inj (show some (Lf.v (.int .i64 p.y)) = some (Lf.nw T_ Z_ S_ k_) from hi))
      · exact Lf.noConfusion (Option.some.inj (show some (Lf.v (.pointer (some ⟨g11, 0, none⟩))) = some (Lf.nw T_ Z_ S_ k_) from hi))
      · exact Lf.noConfusion (Option.some.inj (show some (Lf.v (.int .i64 m.y)) = some (Lf.nw T_ Z_ S_ k_) from hi))
      · exact Lf.noConfusion (Option.some.inj (show some (Lf.v (.agg #[.int .i64 p.y, .int .i64 m.y])) = some (Lf.nw T_ Z_ S_ k_) from hi))
      · exact Lf.noConfusion (Option.some.inj (show some (Lf.v (.agg (RS (c 0)))) = some (Lf.nw T_ Z_ S_ k_) from hi))
      · exact Lf.noConfusion (Option.some.inj (show some (Lf.v (.agg #[.int .i64 p.x, .int .i64 (p.x + p.w)])) = some (Lf.nw T_ Z_ S_ k_) from hi))
      · exact Lf.noConfusion (Option.some.inj (show some (Lf.v (.pointer (some ⟨g11, 1, none⟩))) = some (Lf.nw T_ Z_ S_ k_) from hi))
      · exact Lf.noConfusion (Option.some.inj (show some (Lf.v (.int .i64 (m.y + m.h))) = some (Lf.nw T_ Z_ S_ k_) from hi))
      · exact Lf.noConfusion (Option.some.inj (show some (Lf.v (.pointer (some ⟨g9, 1, none⟩))) = some (Lf.nw T_ Z_ S_ k_) from hi))
      · exact Lf.noConfusion (Option.some.inj (show some (Lf.v (.int .i64 (p.y + p.h))) = some (Lf.nw T_ Z_ S_ k_) from hi))
      · exact Lf.noConfusion (Option.some.inj (show some (Lf.v (.agg #[.int .i64 (m.y + m.h), .int .i64 (p.y + p.h)])) = some (Lf.nw T_ Z_ S_ k_) from hi))
      · exact Lf.noConfusion (Option.some.inj (show some (Lf.v (.agg (RS (c 1)))) = some (Lf.nw T_ Z_ S_ k_) from hi))
      · exact Lf.noConfusion (Option.some.inj (show some (Lf.v (.pointer (some ⟨g8, 0, none⟩))) = some (Lf.nw T_ Z_ S_ k_) from hi))
      · exact Lf.noConfusion (Option.some.inj (show some (Lf.v (.int .i64 p.x)) = some (Lf.nw T_ Z_ S_ k_) from hi))
      · exact Lf.noConfusion (Option.some.inj (show some (Lf.v (.pointer (some ⟨g10, 0, none⟩))) = some (Lf.nw T_ Z_ S_ k_) from hi))
      · exact Lf.noConfusion (Option.some.inj (show some (Lf.v (.int .i64 m.x)) = some (Lf.nw T_ Z_ S_ k_) from hi))
      · exact Lf.noConfusion (Option.some.inj (show some (Lf.v (.agg #[.int .i64 p.x, .int .i64 m.x])) = some (Lf.nw T_ Z_ S_ k_) from hi))
      · exact Lf.noConfusion (Option.some.inj (show some (Lf.v (.agg #[.int .i64 m.y, .int .i64 (m.y + m.h)])) = some (Lf.nw T_ Z_ S_ k_) from hi))
      · exact Lf.noConfusion (Option.some.inj (show some (Lf.v (.agg (RS (c 2)))) = some (Lf.nw T_ Z_ S_ k_) from hi))
      · exact Lf.noConfusion (Option.some.inj (show some (Lf.v (.pointer (some ⟨g10, 1, none⟩))) = some (Lf.nw T_ Z_ S_ k_) from hi))
      · exact Lf.noConfusion (Option.some.inj (show some (Lf.v (.int .i64 (m.x + m.w))) = some (Lf.nw T_ Z_ S_ k_) from hi))
      · exact Lf.noConfusion (Option.some.inj (show some (Lf.v (.pointer (some ⟨g8, 1, none⟩))) = some (Lf.nw T_ Z_ S_ k_) from hi))
      · exact Lf.noConfusion (Option.some.inj (show some (Lf.v (.int .i64 (p.x + p.w))) = some (Lf.nw T_ Z_ S_ k_) from hi))
      · exact Lf.noConfusion (Option.some.inj (show some (Lf.v (.agg #[.int .i64 (m.x + m.w), .int .i64 (p.x + p.w)])) = some (Lf.nw T_ Z_ S_ k_) from hi))
      · exact Lf.noConfusion (Option.some.inj (show some (Lf.v (.agg #[.int .i64 m.y, .int .i64 (m.y + m.h)])) = some (Lf.nw T_ Z_ S_ k_) from hi))
      · exact Lf.noConfusion (Option.some.inj (show some (Lf.v (.agg (RS (c 3)))) = some (Lf.nw T_ Z_ S_ k_) from hi))
      · exact Lf.noConfusion (Option.some.inj (show some (Lf.v (.agg (PS4 c))) = some (Lf.nw T_ Z_ S_ k_) from hi))
      · exact Lf.noConfusion (Option.some.inj (show some (Lf.v (.int .i64 0)) = some (Lf.nw T_ Z_ S_ k_) from hi))
    · intro i_ m_ T_ Z_ S_ hi hm_ a_ W g_ hp_ hg hs
      have hl := (List.getElem?_eq_some_iff.1 hi).1
      rcases (show i_ = 0 ∨ i_ = 1 ∨ i_ = 2 ∨ i_ = 3 ∨ i_ = 4 ∨ i_ = 5 ∨ i_ = 6 ∨ i_ = 7 ∨ i_ = 8 ∨ i_ = 9 ∨ i_ = 10 ∨ i_ = 11 ∨ i_ = 12 ∨ i_ = 13 ∨ i_ = 14 ∨ i_ = 15 ∨ i_ = 16 ∨ i_ = 17 ∨ i_ = 18 ∨ i_ = 19 ∨ i_ = 20 ∨ i_ = 21 ∨ i_ = 22 ∨ i_ = 23 ∨ i_ = 24 ∨ i_ = 25 ∨ i_ = 26 ∨ i_ = 27 ∨ i_ = 28 ∨ i_ = 29 by simp at hl; omega) with rfl | rfl | rfl | rfl | rfl | rfl | rfl | rfl | rfl | rfl | rfl | rfl | rfl | rfl | rfl | rfl | rfl | rfl | rfl | rfl | rfl | rfl | rfl | rfl | rfl | rfl | rfl | rfl | rfl | rfl
      · exact Lf.noConfusion (Option.some.inj (show some (Lf.v (.agg #[.int .i64 p.x, .int .i64 (p.x + p.w)])) = some (Lf.st m_) from hi))
      · exact Lf.noConfusion (Option.some.inj (show some (Lf.v (.pointer (some ⟨g9, 0, none⟩))) = some (Lf.st m_) from hi))
      · exact Lf.noConfusion (Option.some.inj (show some (Lf.v (.int .i64 p.y)) = some (Lf.st m_) from hi))
      · exact Lf.noConfusion (Option.some.inj (show some (Lf.v (.pointer (some ⟨g11, 0, none⟩))) = some (Lf.st m_) from hi))
      · exact Lf.noConfusion (Option.some.inj (show some (Lf.v (.int .i64 m.y)) = some (Lf.st m_) from hi))
      · exact Lf.noConfusion (Option.some.inj (show some (Lf.v (.agg #[.int .i64 p.y, .int .i64 m.y])) = some (Lf.st m_) from hi))
      · exact Lf.noConfusion (Option.some.inj (show some (Lf.v (.agg (RS (c 0)))) = some (Lf.st m_) from hi))
      · exact Lf.noConfusion (Option.some.inj (show some (Lf.v (.agg #[.int .i64 p.x, .int .i64 (p.x + p.w)])) = some (Lf.st m_) from hi))
      · exact Lf.noConfusion (Option.some.inj (show some (Lf.v (.pointer (some ⟨g11, 1, none⟩))) = some (Lf.st m_) from hi))
      · exact Lf.noConfusion (Option.some.inj (show some (Lf.v (.int .i64 (m.y + m.h))) = some (Lf.st m_) from hi))
      · exact Lf.noConfusion (Option.some.inj (show some (Lf.v (.pointer (some ⟨g9, 1, none⟩))) = some (Lf.st m_) from hi))
      · exact Lf.noConfusion (Option.some.inj (show some (Lf.v (.int .i64 (p.y + p.h))) = some (Lf.st m_) from hi))
      · exact Lf.noConfusion (Option.some.inj (show some (Lf.v (.agg #[.int .i64 (m.y + m.h), .int .i64 (p.y + p.h)])) = some (Lf.st m_) from hi))
      · exact Lf.noConfusion (Option.some.inj (show some (Lf.v (.agg (RS (c 1)))) = some (Lf.st m_) from hi))
      · exact Lf.noConfusion (Option.some.inj (show some (Lf.v (.pointer (some ⟨g8, 0, none⟩))) = some (Lf.st m_) from hi))
      · exact Lf.noConfusion (Option.some.inj (show some (Lf.v (.int .i64 p.x)) = some (Lf.st m_) from hi))
      · exact Lf.noConfusion (Option.some.inj (show some (Lf.v (.pointer (some ⟨g10, 0, none⟩))) = some (Lf.st m_) from hi))
      · exact Lf.noConfusion (Option.some.inj (show some (Lf.v (.int .i64 m.x)) = some (Lf.st m_) from hi))
      · exact Lf.noConfusion (Option.some.inj (show some (Lf.v (.agg #[.int .i64 p.x, .int .i64 m.x])) = some (Lf.st m_) from hi))
      · exact Lf.noConfusion (Option.some.inj (show some (Lf.v (.agg #[.int .i64 m.y, .int .i64 (m.y + m.h)])) = some (Lf.st m_) from hi))
      · exact Lf.noConfusion (Option.some.inj (show some (Lf.v (.agg (RS (c 2)))) = some (Lf.st m_) from hi))
      · exact Lf.noConfusion (Option.some.inj (show some (Lf.v (.pointer (some ⟨g10, 1, none⟩))) = some (Lf.st m_) from hi))
      · exact Lf.noConfusion (Option.some.inj (show some (Lf.v (.int .i64 (m.x + m.w))) = some (Lf.st m_) from hi))
      · exact Lf.noConfusion (Option.some.inj (show some (Lf.v (.pointer (some ⟨g8, 1, none⟩))) = some (Lf.st m_) from hi))
      · exact Lf.noConfusion (Option.some.inj (show some (Lf.v (.int .i64 (p.x + p.w))) = some (Lf.st m_) from hi))
      · exact Lf.noConfusion (Option.some.inj (show some (Lf.v (.agg #[.int .i64 (m.x + m.w), .int .i64 (p.x + p.w)])) = some (Lf.st m_) from hi))
      · exact Lf.noConfusion (Option.some.inj (show some (Lf.v (.agg #[.int .i64 m.y, .int .i64 (m.y + m.h)])) = some (Lf.st m_) from hi))
      · exact Lf.noConfusion (Option.some.inj (show some (Lf.v (.agg (RS (c 3)))) = some (Lf.st m_) from hi))
      · exact Lf.noConfusion (Option.some.inj (show some (Lf.v (.agg (PS4 c))) = some (Lf.st m_) from hi))
      · exact Lf.noConfusion (Option.some.inj (show some (Lf.v (.int .i64 0)) = some (Lf.st m_) from hi))
    · intro b_ vals_ W hall hI
      have hB := hI.bel
      have v0 : vals_ 0 = .agg #[.int .i64 p.x, .int .i64 (p.x + p.w)] := hI.has 0 (Nat.le_of_ble_eq_true rfl) (hall 0 (Nat.le_of_ble_eq_true rfl))
      have v1 : vals_ 1 = .pointer (some ⟨g9, 0, none⟩) := hI.has 1 (Nat.le_of_ble_eq_true rfl) (hall 1 (Nat.le_of_ble_eq_true rfl))
      have v2 : vals_ 2 = .int .i64 p.y := hI.has 2 (Nat.le_of_ble_eq_true rfl) (hall 2 (Nat.le_of_ble_eq_true rfl))
      have v3 : vals_ 3 = .pointer (some ⟨g11, 0, none⟩) := hI.has 3 (Nat.le_of_ble_eq_true rfl) (hall 3 (Nat.le_of_ble_eq_true rfl))
      have v4 : vals_ 4 = .int .i64 m.y := hI.has 4 (Nat.le_of_ble_eq_true rfl) (hall 4 (Nat.le_of_ble_eq_true rfl))
      have v5 : vals_ 5 = .agg #[.int .i64 p.y, .int .i64 m.y] := hI.has 5 (Nat.le_of_ble_eq_true rfl) (hall 5 (Nat.le_of_ble_eq_true rfl))
      have v6 : vals_ 6 = .agg (RS (c 0)) := hI.has 6 (Nat.le_of_ble_eq_true rfl) (hall 6 (Nat.le_of_ble_eq_true rfl))
      have v7 : vals_ 7 = .agg #[.int .i64 p.x, .int .i64 (p.x + p.w)] := hI.has 7 (Nat.le_of_ble_eq_true rfl) (hall 7 (Nat.le_of_ble_eq_true rfl))
      have v8 : vals_ 8 = .pointer (some ⟨g11, 1, none⟩) := hI.has 8 (Nat.le_of_ble_eq_true rfl) (hall 8 (Nat.le_of_ble_eq_true rfl))
      have v9 : vals_ 9 = .int .i64 (m.y + m.h) := hI.has 9 (Nat.le_of_ble_eq_true rfl) (hall 9 (Nat.le_of_ble_eq_true rfl))
      have v10 : vals_ 10 = .pointer (some ⟨g9, 1, none⟩) := hI.has 10 (Nat.le_of_ble_eq_true rfl) (hall 10 (Nat.le_of_ble_eq_true rfl))
      have v11 : vals_ 11 = .int .i64 (p.y + p.h) := hI.has 11 (Nat.le_of_ble_eq_true rfl) (hall 11 (Nat.le_of_ble_eq_true rfl))
      have v12 : vals_ 12 = .agg #[.int .i64 (m.y + m.h), .int .i64 (p.y + p.h)] := hI.has 12 (Nat.le_of_ble_eq_true rfl) (hall 12 (Nat.le_of_ble_eq_true rfl))
      have v13 : vals_ 13 = .agg (RS (c 1)) := hI.has 13 (Nat.le_of_ble_eq_true rfl) (hall 13 (Nat.le_of_ble_eq_true rfl))
      have v14 : vals_ 14 = .pointer (some ⟨g8, 0, none⟩) := hI.has 14 (Nat.le_of_ble_eq_true rfl) (hall 14 (Nat.le_of_ble_eq_true rfl))
      have v15 : vals_ 15 = .int .i64 p.x := hI.has 15 (Nat.le_of_ble_eq_true rfl) (hall 15 (Nat.le_of_ble_eq_true rfl))
      have v16 : vals_ 16 = .pointer (some ⟨g10, 0, none⟩) := hI.has 16 (Nat.le_of_ble_eq_true rfl) (hall 16 (Nat.le_of_ble_eq_true rfl))
      have v17 : vals_ 17 = .int .i64 m.x := hI.has 17 (Nat.le_of_ble_eq_true rfl) (hall 17 (Nat.le_of_ble_eq_true rfl))
      have v18 : vals_ 18 = .agg #[.int .i64 p.x, .int .i64 m.x] := hI.has 18 (Nat.le_of_ble_eq_true rfl) (hall 18 (Nat.le_of_ble_eq_true rfl))
      have v19 : vals_ 19 = .agg #[.int .i64 m.y, .int .i64 (m.y + m.h)] := hI.has 19 (Nat.le_of_ble_eq_true rfl) (hall 19 (Nat.le_of_ble_eq_true rfl))
      have v20 : vals_ 20 = .agg (RS (c 2)) := hI.has 20 (Nat.le_of_ble_eq_true rfl) (hall 20 (Nat.le_of_ble_eq_true rfl))
      have v21 : vals_ 21 = .pointer (some ⟨g10, 1, none⟩) := hI.has 21 (Nat.le_of_ble_eq_true rfl) (hall 21 (Nat.le_of_ble_eq_true rfl))
      have v22 : vals_ 22 = .int .i64 (m.x + m.w) := hI.has 22 (Nat.le_of_ble_eq_true rfl) (hall 22 (Nat.le_of_ble_eq_true rfl))
      have v23 : vals_ 23 = .pointer (some ⟨g8, 1, none⟩) := hI.has 23 (Nat.le_of_ble_eq_true rfl) (hall 23 (Nat.le_of_ble_eq_true rfl))
      have v24 : vals_ 24 = .int .i64 (p.x + p.w) := hI.has 24 (Nat.le_of_ble_eq_true rfl) (hall 24 (Nat.le_of_ble_eq_true rfl))
      have v25 : vals_ 25 = .agg #[.int .i64 (m.x + m.w), .int .i64 (p.x + p.w)] := hI.has 25 (Nat.le_of_ble_eq_true rfl) (hall 25 (Nat.le_of_ble_eq_true rfl))
      have v26 : vals_ 26 = .agg #[.int .i64 m.y, .int .i64 (m.y + m.h)] := hI.has 26 (Nat.le_of_ble_eq_true rfl) (hall 26 (Nat.le_of_ble_eq_true rfl))
      have v27 : vals_ 27 = .agg (RS (c 3)) := hI.has 27 (Nat.le_of_ble_eq_true rfl) (hall 27 (Nat.le_of_ble_eq_true rfl))
      have v28 : vals_ 28 = .agg (PS4 c) := hI.has 28 (Nat.le_of_ble_eq_true rfl) (hall 28 (Nat.le_of_ble_eq_true rfl))
      have v29 : vals_ 29 = .int .i64 0 := hI.has 29 (Nat.le_of_ble_eq_true rfl) (hall 29 (Nat.le_of_ble_eq_true rfl))
      simp only [List.length_cons, List.length_nil, Nat.zero_add, Nat.reduceAdd, List.size_toArray, slots, if_true, dstOf, List.getElem?_toArray, List.getElem?_cons_zero, List.getElem?_cons_succ, Option.bind_some, Act.put, List.setIfInBounds_toArray, List.set_cons_zero, List.set_cons_succ, v0, v1, v2, v3, v4, v5, v6, v7, v8, v9, v10, v11, v12, v13, v14, v15, v16, v17, v18, v19, v20, v21, v22, v23, v24, v25, v26, v27, v28, v29]
      clear hI hall v0 v1 v2 v3 v4 v5 v6 v7 v8 v9 v10 v11 v12 v13 v14 v15 v16 v17 v18 v19 v20 v21 v22 v23 v24 v25 v26 v27 v28 v29
      change wpAny _ _ _ _ 0 _ _ _
      refine wpAny_done (by kernel_rfl) ?_ _
      replace hP := (hB.block _ (heap_lt hP)).trans hP
      replace hBW := bel hBW hB
      clear hB
      go_wp2
      go_loopw [10, 61] (fun v t wr => ∃ k : Nat, k ≤ 4 ∧ t = .int .i64 k ∧ Hid (wr.ownsRow w.heap.size 24 4 v (((List.range k).map c).filter fun r => !r.empty).length (cellsR (((List.range k).map c).filter fun r => !r.empty))) ∧ Hid (Below w.heap.size w wr)) (fun _ t _ => 4 - (intOf t).toNat)
      case atStart => exact ⟨0, by omega, rfl, Lib.hid (own_nil _ _ _ _), Lib.hid hBW⟩
      case round =>
        obtain ⟨k, hk, rfl, hO, hB3⟩ := hrel
        have hz3 := hB3.out.size
        by_cases q' : k < 4
        · have ik := ix89 c k q'
          have hsn : ((List.range (k + 1)).map c).filter (fun r => !r.empty) = ((List.range k).map c).filter (fun r => !r.empty) ++ (if (c k).empty = true then [] else [c k]) := by
            rw [List.range_succ, List.map_append, List.filter_append]
            congr 1
            by_cases h : (c k).empty = true <;> simp [h]
          have Hsn := Lib.hid hsn
          obtain ⟨l, hl⟩ : ∃ l, l = ((List.range k).map c).filter fun r => !r.empty := ⟨_, rfl⟩
          rw [← hl] at hO
          have hll : l.length ≤ 4 := by
            rw [hl]
            refine Nat.le_trans (List.length_filter_le _ _) ?_
            simp
            omega
          have Hl := Lib.hid hl
          clear hsn hl
          cases hce : (c k).empty with
          | true =>
            have Hce := Lib.hid hce
            clear hce
            go_wp2_with (first
              | (refine wpList_ix89 rfl (.tmp 60) (.tmp 61) rfl c k q' rfl rfl ?_)
              | (refine wpList_store_whole rfl 24 (.tmp 12) (.tmp 63) rfl ?g_k3 (RS (c k)) ?c_k3 24 ?ha_k3 ?hb_k3 ?hc_k3 ?hd_k3 ?he_k3 ?hf_k3 ?_; (case ha_k3 => rfl); (case hb_k3 => rfl); (case hc_k3 => first | exact heap_alloc_new _ _ | (refine heap_new_at ?_; simp)); (case hd_k3 => rfl); (case he_k3 => exact info24 _); (case hf_k3 => kernel_rfl); intro w8 hK hs8 hfar hbel; go_must (have hO := Lib.hid (own_move (hO.out.alloc _) (fun j hj => hfar j (Nat.ne_of_lt (own_lt hO.out j hj)))); have hB3 := Lib.hid (hbel _ _ hB3.out.size (below_alloc hB3.out _)); clear hfar hbel))
              | (refine wpList_load_on (by rfl) 24 (.tmp 12) rfl _ rfl 24 (RS (c k)) (0, 0) _ hK Try.underlying24 rfl (info24 _) ?_)
              | (go_at_call 12; refine (emptyR _ _).mono ?_; rintro e w9 ⟨rfl, hb⟩; have E := Hce.out; have hO := Lib.hid (pw_own_below hO.out hb); have hB3 := Lib.hid (bel hB3.out hb); clear hb))
            go_roundw
            case rel =>
              refine ⟨k + 1, by omega, by go_num, Lib.hid ?_, hB3⟩
              rw [Hsn.out, ← Hl.out, Hce.out]
              simpa using hO.out
            case measure =>
              simp [intOf]
              omega
          | false =>
            have Hce := Lib.hid hce
            clear hce
            go_wp2_with (first
              | (refine wpList_ix89 rfl (.tmp 60) (.tmp 61) rfl c k q' rfl rfl ?_)
              | (refine wpList_store_whole rfl 24 (.tmp 12) (.tmp 63) rfl ?g_k4 (RS (c k)) ?c_k4 24 ?ha_k4 ?hb_k4 ?hc_k4 ?hd_k4 ?he_k4 ?hf_k4 ?_; (case ha_k4 => rfl); (case hb_k4 => rfl); (case hc_k4 => first | exact heap_alloc_new _ _ | (refine heap_new_at ?_; simp)); (case hd_k4 => rfl); (case he_k4 => exact info24 _); (case hf_k4 => kernel_rfl); intro w8 hK hs8 hfar hbel; go_must (have hO := Lib.hid (own_move (hO.out.alloc _) (fun j hj => hfar j (Nat.ne_of_lt (own_lt hO.out j hj)))); have hB3 := Lib.hid (hbel _ _ hB3.out.size (below_alloc hB3.out _)); clear hfar hbel))
              | (refine wpList_load_on (by rfl) 24 (.tmp 12) rfl _ rfl 24 (RS (c k)) (0, 0) _ hK Try.underlying24 rfl (info24 _) ?_)
              | (go_at_call 12; refine (emptyR _ _).mono ?_; rintro e w9 ⟨rfl, hb⟩; have E := Hce.out; have hO := Lib.hid (pw_own_below hO.out hb); have hB3 := Lib.hid (bel hB3.out hb); replace hK := (hb.block _ (heap_lt hK)).trans hK; clear hb)
              | (refine wpList_bs24 rfl (.tmp 68) rfl (c k) rfl ?_)
              | (at_builtin; refine wpList_append_rect w.heap.size rfl (.tmp 67) (.tmp 69) rfl u10 l (c k) rfl rfl hO.out hB3.out.size (by omega) ?_; intro v5 w5 hO5 hB5; have hO := Lib.hid hO5; have hB3 := Lib.hid (hB5 _ _ (Nat.le_refl _) hB3.out); clear hO5 hB5))
            go_roundw
            case rel =>
              refine ⟨k + 1, by omega, by go_num, Lib.hid ?_, hB3⟩
              rw [Hsn.out, ← Hl.out, Hce.out]
              exact hO.out
            case measure =>
              simp [intOf]
              omega
        · obtain rfl : k = 4 := by omega
          go_wp2
          go_ret
          exact ⟨u10, rfl, hO.out, hB3.out⟩
theorem less_any (p q : R4) (w : World) : Calls Try.prog 25 #[.agg (RS p), .agg (RS q)] w (LessPost w (lessF p q)) := by
  unfold lessF
  cases he : p.empty with
  | true => rw [if_pos rfl]; exact less_none p q w he
  | false =>
    rw [if_neg (by simp)]
    cases hme : (meetF p q).empty with
    | true => rw [if_pos rfl]; exact less_one p q _ w he rfl hme
    | false =>
      rw [if_neg (by simp)]
      have hp : p.right = true := by
        cases h : p.right with
        | true => rfl
        | false =>
          have : p.empty = true := by rw [empty_iff]; intro h'; rw [h] at h'; cases h'
          rw [he] at this
          cases this
      have hm : (meetF p q).right = true := by
        cases h : (meetF p q).right with
        | true => rfl
        | false =>
          have : (meetF p q).empty = true := by rw [empty_iff]; intro h'; rw [h] at h'; cases h'
          rw [hme] at this
          cases this
      exact less_some p q (meetF p q) (pieceAt p (meetF p q)) w hp he rfl hm hme rfl rfl rfl rfl
end Go.Proofs.Ytjekoaodgdodjaa
