/- vector.Take of what Put wrote. -/
import Derived.Test.YtidfmpiliinmeaaZ
set_option linter.unusedVariables false
set_option linter.unusedSimpArgs false
namespace Go.Proofs.Ytidfmpiliinmeaa
open Go.RowKit
theorem Step.below {gr : Nat} {W W' w : World} (h : Step gr W W') (hg : w.heap.size ≤ gr) (hb : Below w.heap.size w W) : Below w.heap.size w W' := h.bel _ _ hg hb
def TakePost (a : Nat → Int) (gr g : Nat) (w : World) (e : Ending) (w' : World) : Prop := e = .returned (.agg (CS (headF a (lastTo a 16)))) ∧ (∃ off c, RdAt w' gr g off c []) ∧ w.heap.size ≤ w'.heap.size ∧ (∀ k, k < w.heap.size → k ≠ gr → w'.heap[k]? = w.heap[k]?) ∧ ∀ B w0, B ≤ gr → Below B w0 w → Below B w0 w'
theorem RdAt.set {W : World} {gr g off c gv j : Nat} {xs : List Int} {v : Value} (h : RdAt W gr g off c xs) (h1 : gr ≠ gv) (h2 : g ≠ gv) : RdAt (W.setCell ⟨gv, j, none⟩ v) gr g off c xs :=
  ⟨set_ne h1 h.blk, fun i hi => (cell_at (set_ne h2 rfl)).trans (h.bs i hi), h.ne, by simpa using h.lt, h.le, h.cm⟩
theorem RdAt.far {W W' : World} {gr g off c : Nat} {xs : List Int} (h : RdAt W gr g off c xs) (h1 : W'.heap[gr]? = W.heap[gr]?) (h2 : W'.heap[g]? = W.heap[g]?) (h3 : W'.heap.size = W.heap.size) : RdAt W' gr g off c xs :=
  ⟨h1.trans h.blk, fun i hi => (cell_at h2).trans (h.bs i hi), h.ne, by rw [h3]; exact h.lt, h.le, h.cm⟩
theorem flat_next (a : Nat → Int) (k n : Nat) (h : k < n) : flatFrom a k (n - k) = numL (a k) ++ flatFrom a (k + 1) (n - (k + 1)) := by
  rw [show n - k = (n - (k + 1)) + 1 by omega]
  rfl
/-- What the loop keeps beside the vector. -/
structure Kp (gr : Nat) (w wr : World) : Prop where
  size : wr.heap.size = w.heap.size + 1
  far : ∀ k, k < w.heap.size → k ≠ gr → wr.heap[k]? = w.heap[k]?
  bel : ∀ B w0, B ≤ gr → Below B w0 w → Below B w0 wr
theorem Kp.step {gr : Nat} {w wr W : World} (h : Kp gr w wr) (s : Step gr wr W) : Kp gr w W := ⟨s.size.trans h.size, fun k hk hn => (s.far k hn).trans (h.far k hk hn), fun B w0 hB hb => s.bel B w0 hB (h.bel B w0 hB hb)⟩
theorem Kp.set {gr j : Nat} {w wr : World} {v : Value} (h : Kp gr w wr) (hg : gr < w.heap.size) : Kp gr w (wr.setCell ⟨w.heap.size, j, none⟩ v) :=
  ⟨by simpa using h.size, fun k hk hn => (set_ne (by omega) rfl).trans (h.far k hk hn), fun B w0 hB hb => (h.bel B w0 hB hb).setCell (p := ⟨w.heap.size, j, none⟩) (by show B ≤ w.heap.size; omega) v⟩
theorem upto_num (gr g off c : Nat) (n : Int) (rest : List Int) (most : Int) (w : World) (h : RdAt w gr g off c (numL n ++ rest)) (h0 : 0 ≤ n) (h1 : n ≤ most) (h2 : most < 65536) :
    Calls Try.prog 36 #[rp gr, .int .i64 most] w fun e w' => e = .returned (.int .i64 n) ∧ (∃ off' c', RdAt w' gr g off' c' rest) ∧ Step gr w w' := by
  obtain ⟨k1, k2, k3, k4⟩ := numB_ok n h0 (by omega)
  rw [numL_is] at h
  exact (upto_go gr g off c (numB n) rest most w h k1 k2 k3 (by omega)).mono fun e w' ⟨he, ⟨o, hR⟩, hs⟩ => ⟨by rw [he, k4], ⟨o, _, hR⟩, hs⟩
theorem zero_head (a : Nat → Int) : CS (headF a 0) = #[.int .i64 0, .int .i64 0, .int .i64 0, .int .i64 0, .int .i64 0, .int .i64 0, .int .i64 0, .int .i64 0, .int .i64 0, .int .i64 0, .int .i64 0, .int .i64 0, .int .i64 0, .int .i64 0, .int .i64 0, .int .i64 0] := by
  simp [CS, headF]
set_option maxRecDepth 10000 in
set_option maxHeartbeats 4000000 in
theorem take_go (a : Nat → Int) (hr : rightB a = true) (gr g off c : Nat) (w : World) (h : RdAt w gr g off c (putL a)) : Calls Try.prog 21 #[rp gr] w (TakePost a gr g w) := by
  have hall := (right_iff a).1 hr
  have Hall := Lib.hid hall
  have hl := lastTo_le a 16
  obtain ⟨n, hn⟩ : ∃ n, n = lastTo a 16 := ⟨_, rfl⟩
  have hg := heap_lt h.blk
  have hgl := h.lt
  have h' : RdAt (w.alloc (.cells (CS (headF a 0)) 24)) gr g off c (numL n ++ flatFrom a 0 n) := by
    have := h.below (below_alloc (Below.refl _ _) (.cells (CS (headF a 0)) 24))
    rw [put_from, ← hn] at this
    exact this
  rw [zero_head] at h'
  unfold TakePost
  rw [← hn] at hl ⊢
  have hlp := last_pos a 16
  rw [← hn] at hlp
  have HN := Lib.hid hn
  have HP := Lib.hid hlp
  have H := Lib.hid h'
  have hV0 : (w.alloc (.cells (CS (headF a 0)) 24)).heap[w.heap.size]? = some (.cells (CS (headF a 0)) 24 (0, 0)) := heap_alloc_new w _
  rw [zero_head] at hV0
  have HV0 := Lib.hid hV0
  have hBl : Kp gr w (w.alloc (.cells #[.int .i64 0, .int .i64 0, .int .i64 0, .int .i64 0, .int .i64 0, .int .i64 0, .int .i64 0, .int .i64 0, .int .i64 0, .int .i64 0, .int .i64 0, .int .i64 0, .int .i64 0, .int .i64 0, .int .i64 0, .int .i64 0] 24)) := ⟨by simp, fun k hk _ => heap_alloc_old _ _ hk, fun B w0 hB hb => hb.alloc (by omega) _⟩
  have HBl := Lib.hid hBl
  clear h h' hn hlp hall hr hV0 hBl
  go_enter Try.func21, Try.ntmps21
  go_wp2_with (go_at_call 36; refine (upto_num gr g off c n _ 16 _ H.out (by omega) (by omega) (by omega)).mono ?_; rintro e w1 ⟨rfl, hR, hs⟩; have hR := Lib.hid hR; have HS := Lib.hid hs; clear hs)
  have hgv : w.heap.size ≠ gr := by omega
  go_loopw [8] (fun t wr => ∃ k : Nat, k ≤ n ∧ t = .int .i64 k ∧ Hid (wr.heap[w.heap.size]? = some (.cells (CS (headF a k)) 24 (0, 0))) ∧ Hid (∃ off c, RdAt wr gr g off c (flatFrom a k (n - k))) ∧ Hid (Kp gr w wr)) (fun t _ => n - (intOf t).toNat)
  case atStart => exact ⟨0, by omega, rfl, Lib.hid (by rw [zero_head]; exact (HS.out.far _ hgv).trans HV0.out), Lib.hid hR.out, Lib.hid (HBl.out.step HS.out)⟩
  case round =>
    obtain ⟨k, hk, rfl, HV, HR, HK⟩ := hrel
    clear HBl HV0 HS H hR
    by_cases q : k < n
    · have hak := Hall.out k (by omega)
      obtain ⟨o1, c1, hR1⟩ := HR.out
      rw [flat_next a k n q] at hR1
      have HR1 := Lib.hid hR1
      clear hR1
      go_wp2_with (go_at_call 36; refine (upto_num gr g _ _ (a k) _ 512 _ HR1.out hak.1 hak.2 (by omega)).mono ?_; rintro e w2 ⟨rfl, hR2, hs2⟩; have hR2 := Lib.hid hR2; have HS2 := Lib.hid hs2; have hV2 := (HS2.out.far _ hgv).trans HV.out; have cc := cell_of_heap hV2 (j := k) (CS_get _ k (by omega)); have ff := frozen_of_heap hV2 (j := k); have HV2 := Lib.hid hV2; clear hs2 hV2)
      go_roundw
      case rel =>
        obtain ⟨o2, c2, hR3⟩ := hR2.out
        refine ⟨k + 1, by omega, by go_num, Lib.hid ?_, Lib.hid ⟨o2, c2, hR3.set (by omega) (by omega)⟩, Lib.hid ((HK.out.step HS2.out).set hg)⟩
        rw [set_same HV2.out, head_next a k (by omega)]
      case measure =>
        simp [intOf]
        omega
    · obtain rfl : k = n := by omega
      have hR3 := HR.out
      rw [Nat.sub_self] at hR3
      have HR3 := Lib.hid hR3
      clear hR3 HR
      rcases Nat.eq_zero_or_pos k with hz | hz
      · subst hz
        go_wp2_with (first
          | (go_at_call 25; (obtain ⟨o3, c3, hR4⟩ := HR3.out); refine (rerr gr g o3 c3 [] _ hR4).mono ?_; rintro e w3 ⟨rfl, rfl⟩)
          | (refine wpList_load_on (by rfl) 24 (.tmp 2) rfl _ rfl 24 (CS (headF a 0)) (0, 0) _ HV.out Try.underlying24 rfl (info24 _) ?_)
          | (refine wpList_store_whole rfl 24 (.tmp 2) (.tmp 31) rfl w.heap.size (CS (headF a 0)) (CS (headF a 0)) 24 rfl rfl HV.out rfl (info24 _) (by kernel_rfl) ?_; intro w4 hnew hsz hfar hbel; have HNEW := Lib.hid hnew; (obtain ⟨o5, c5, hR5⟩ := HR3.out); have HR4 := Lib.hid (hR5.far (hfar gr (by omega)) (hfar g (by omega)) hsz); have HK4 := Lib.hid (show Kp gr w w4 from ⟨hsz.trans HK.out.size, fun k hk hn => (hfar k (by omega)).trans (HK.out.far k hk hn), fun B w0 hB hb => hbel B w0 (by omega) (HK.out.bel B w0 hB hb)⟩); clear hnew hsz hfar hbel hR5))
        have d0 := cell_of_heap HNEW.out (j := 0) (CS_get _ 0 (by omega))
        have d1 := cell_of_heap HNEW.out (j := 1) (CS_get _ 1 (by omega))
        have d2 := cell_of_heap HNEW.out (j := 2) (CS_get _ 2 (by omega))
        have d3 := cell_of_heap HNEW.out (j := 3) (CS_get _ 3 (by omega))
        have d4 := cell_of_heap HNEW.out (j := 4) (CS_get _ 4 (by omega))
        have d5 := cell_of_heap HNEW.out (j := 5) (CS_get _ 5 (by omega))
        have d6 := cell_of_heap HNEW.out (j := 6) (CS_get _ 6 (by omega))
        have d7 := cell_of_heap HNEW.out (j := 7) (CS_get _ 7 (by omega))
        have d8 := cell_of_heap HNEW.out (j := 8) (CS_get _ 8 (by omega))
        have d9 := cell_of_heap HNEW.out (j := 9) (CS_get _ 9 (by omega))
        have d10 := cell_of_heap HNEW.out (j := 10) (CS_get _ 10 (by omega))
        have d11 := cell_of_heap HNEW.out (j := 11) (CS_get _ 11 (by omega))
        have d12 := cell_of_heap HNEW.out (j := 12) (CS_get _ 12 (by omega))
        have d13 := cell_of_heap HNEW.out (j := 13) (CS_get _ 13 (by omega))
        have d14 := cell_of_heap HNEW.out (j := 14) (CS_get _ 14 (by omega))
        have d15 := cell_of_heap HNEW.out (j := 15) (CS_get _ 15 (by omega))
        exact bodyPost_ret (v := .agg #[.int .i64 (headF a 0 0), .int .i64 (headF a 0 1), .int .i64 (headF a 0 2), .int .i64 (headF a 0 3), .int .i64 (headF a 0 4), .int .i64 (headF a 0 5), .int .i64 (headF a 0 6), .int .i64 (headF a 0 7), .int .i64 (headF a 0 8), .int .i64 (headF a 0 9), .int .i64 (headF a 0 10), .int .i64 (headF a 0 11), .int .i64 (headF a 0 12), .int .i64 (headF a 0 13), .int .i64 (headF a 0 14), .int .i64 (headF a 0 15)]) (by simp [results, Try.results21, go_sem, *]) rfl ⟨rfl, ⟨_, _, HR4.out⟩, by have := HK4.out.size; omega, HK4.out.far, HK4.out.bel⟩
      · have hpos : 0 < a (k - 1) := by
          rcases HP.out with h | h
          · omega
          · exact h
        have cl := cell_of_heap HV.out (j := k - 1) (CS_get _ (k - 1) (by omega))
        have hh : headF a k (k - 1) = a (k - 1) := if_pos (by omega)
        rw [hh] at cl
        obtain ⟨x, hx⟩ : ∃ x, x = a (k - 1) := ⟨_, rfl⟩
        rw [← hx] at cl hpos
        have hx0 : (x == 0) = false := beq_eq_false_iff_ne.2 (by omega)
        have hk1 : ((k : Int) - 1) = ((k - 1 : Nat) : Int) := by omega
        go_wp2_with (first
          | (go_at_call 25; (obtain ⟨o3, c3, hR4⟩ := HR3.out); refine (rerr gr g o3 c3 [] _ hR4).mono ?_; rintro e w3 ⟨rfl, rfl⟩)
          | (refine wpList_load_on (by rfl) 24 (.tmp 2) rfl _ rfl 24 (CS (headF a k)) (0, 0) _ HV.out Try.underlying24 rfl (info24 _) ?_)
          | (refine wpList_store_whole rfl 24 (.tmp 2) (.tmp 31) rfl w.heap.size (CS (headF a k)) (CS (headF a k)) 24 rfl rfl HV.out rfl (info24 _) (by kernel_rfl) ?_; intro w4 hnew hsz hfar hbel; have HNEW := Lib.hid hnew; (obtain ⟨o5, c5, hR5⟩ := HR3.out); have HR4 := Lib.hid (hR5.far (hfar gr (by omega)) (hfar g (by omega)) hsz); have HK4 := Lib.hid (show Kp gr w w4 from ⟨hsz.trans HK.out.size, fun k hk hn => (hfar k (by omega)).trans (HK.out.far k hk hn), fun B w0 hB hb => hbel B w0 (by omega) (HK.out.bel B w0 hB hb)⟩); clear hnew hsz hfar hbel hR5))
        have d0 := cell_of_heap HNEW.out (j := 0) (CS_get _ 0 (by omega))
        have d1 := cell_of_heap HNEW.out (j := 1) (CS_get _ 1 (by omega))
        have d2 := cell_of_heap HNEW.out (j := 2) (CS_get _ 2 (by omega))
        have d3 := cell_of_heap HNEW.out (j := 3) (CS_get _ 3 (by omega))
        have d4 := cell_of_heap HNEW.out (j := 4) (CS_get _ 4 (by omega))
        have d5 := cell_of_heap HNEW.out (j := 5) (CS_get _ 5 (by omega))
        have d6 := cell_of_heap HNEW.out (j := 6) (CS_get _ 6 (by omega))
        have d7 := cell_of_heap HNEW.out (j := 7) (CS_get _ 7 (by omega))
        have d8 := cell_of_heap HNEW.out (j := 8) (CS_get _ 8 (by omega))
        have d9 := cell_of_heap HNEW.out (j := 9) (CS_get _ 9 (by omega))
        have d10 := cell_of_heap HNEW.out (j := 10) (CS_get _ 10 (by omega))
        have d11 := cell_of_heap HNEW.out (j := 11) (CS_get _ 11 (by omega))
        have d12 := cell_of_heap HNEW.out (j := 12) (CS_get _ 12 (by omega))
        have d13 := cell_of_heap HNEW.out (j := 13) (CS_get _ 13 (by omega))
        have d14 := cell_of_heap HNEW.out (j := 14) (CS_get _ 14 (by omega))
        have d15 := cell_of_heap HNEW.out (j := 15) (CS_get _ 15 (by omega))
        exact bodyPost_ret (v := .agg #[.int .i64 (headF a k 0), .int .i64 (headF a k 1), .int .i64 (headF a k 2), .int .i64 (headF a k 3), .int .i64 (headF a k 4), .int .i64 (headF a k 5), .int .i64 (headF a k 6), .int .i64 (headF a k 7), .int .i64 (headF a k 8), .int .i64 (headF a k 9), .int .i64 (headF a k 10), .int .i64 (headF a k 11), .int .i64 (headF a k 12), .int .i64 (headF a k 13), .int .i64 (headF a k 14), .int .i64 (headF a k 15)]) (by simp [results, Try.results21, go_sem, *]) rfl ⟨rfl, ⟨_, _, HR4.out⟩, by have := HK4.out.size; omega, HK4.out.far, HK4.out.bel⟩
end Go.Proofs.Ytidfmpiliinmeaa
