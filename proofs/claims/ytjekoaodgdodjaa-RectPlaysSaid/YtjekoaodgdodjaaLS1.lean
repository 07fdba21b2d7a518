/- Walk of rect.Less. -/
import Derived.Test.YtjekoaodgdodjaaRV
set_option linter.unusedVariables false
set_option linter.unusedSimpArgs false
namespace Go.Proofs.Ytjekoaodgdodjaa
open Go.RowKit
open Go.Proofs.YtjekoaodgdodjaaW.PrintWords (own_nil own_move own_lt pw_own_below)
def pieces (p m : R4) : List R4 := [⟨p.x, p.y, p.w, m.y - p.y⟩, ⟨p.x, m.y + m.h, p.w, p.y + p.h - (m.y + m.h)⟩, ⟨p.x, m.y, m.x - p.x, m.h⟩, ⟨m.x + m.w, m.y, p.x + p.w - (m.x + m.w), m.h⟩]
def lessF (p q : R4) : List R4 := if p.empty = true then [] else if (meetF p q).empty = true then [p] else (pieces p (meetF p q)).filter fun r => !r.empty
def LessPost (w : World) (l : List R4) (e : Ending) (w' : World) : Prop := ∃ v, e = .returned v ∧ w'.ownsRow w.heap.size 24 4 v l.length (cellsR l) ∧ Below w.heap.size w w'
def pieceAt (p m : R4) (k : Nat) : R4 := (pieces p m).getD k .zero
set_option maxHeartbeats 4000000 in
theorem less_none (p q : R4) (w : World) (he : p.empty = true) : Calls Try.prog 25 #[.agg (RS p), .agg (RS q)] w (LessPost w []) := by
  have He := Lib.hid he
  clear he
  have hP : ((w.alloc (.cells (RS p) 24)).alloc (.cells (RS q) 24)).heap[w.heap.size]? = some (.cells (RS p) 24 (0, 0)) := (heap_alloc_old _ _ (by simp)).trans (heap_alloc_new w _)
  have hQ : ((w.alloc (.cells (RS p) 24)).alloc (.cells (RS q) 24)).heap[w.heap.size + 1]? = some (.cells (RS q) 24 (0, 0)) := heap_new_at (by simp)
  have hBW : Below w.heap.size w ((w.alloc (.cells (RS p) 24)).alloc (.cells (RS q) 24)) := below_alloc (below_alloc (Below.refl _ _) _) _
  go_enter Try.func25, Try.ntmps25
  go_wp2_with (first
    | (refine wpList_load_on (by rfl) 24 (.tmp 2) rfl _ rfl 24 (RS p) (0, 0) _ hP Try.underlying24 rfl (info24 _) ?_)
    | (refine wpList_load_on (by rfl) 24 (.tmp 3) rfl _ rfl 24 (RS q) (0, 0) _ hQ Try.underlying24 rfl (info24 _) ?_)
    | (go_at_call 10; refine (meetR _ _ _).mono ?_; rintro e w1 ⟨rfl, hb⟩; replace hP := (hb.block _ (heap_lt hP)).trans hP; replace hBW := bel hBW hb; clear hb hQ)
    | (refine wpList_store_whole rfl 24 (.tmp 5) (.tmp 15) rfl ?g_s0 (RS (meetF p q)) ?c_s0 24 ?ha_s0 ?hb_s0 ?hc_s0 ?hd_s0 ?he_s0 ?hf_s0 ?_; (case ha_s0 => rfl); (case hb_s0 => rfl); (case hc_s0 => first | exact heap_alloc_new _ _ | (refine heap_new_at ?_; simp)); (case hd_s0 => rfl); (case he_s0 => exact info24 _); (case hf_s0 => kernel_rfl); intro w2 hM hs2 hfar hbel; go_must (replace hP := (hfar _ (Nat.ne_of_lt (heap_lt hP))).trans ((heap_alloc_old _ _ (heap_lt hP)).trans hP); replace hBW := hbel _ _ hBW.size (below_alloc hBW _); clear hfar hbel))
    | (go_at_call 12; refine (emptyR _ _).mono ?_; rintro e w3 ⟨rfl, hb⟩; have E := He.out; replace hBW := bel hBW hb))
  go_ret
  exact ⟨_, rfl, own_nil _ _ _ _, hBW⟩
set_option maxHeartbeats 4000000 in
theorem less_one (p q m : R4) (w : World) (he : p.empty = false) (hm : meetF p q = m) (hme : m.empty = true) : Calls Try.prog 25 #[.agg (RS p), .agg (RS q)] w (LessPost w [p]) := by
  have He := Lib.hid he
  have Hm := Lib.hid hm
  have Hme := Lib.hid hme
  clear he hm hme
  have hP : ((w.alloc (.cells (RS p) 24)).alloc (.cells (RS q) 24)).heap[w.heap.size]? = some (.cells (RS p) 24 (0, 0)) := (heap_alloc_old _ _ (by simp)).trans (heap_alloc_new w _)
  have hQ : ((w.alloc (.cells (RS p) 24)).alloc (.cells (RS q) 24)).heap[w.heap.size + 1]? = some (.cells (RS q) 24 (0, 0)) := heap_new_at (by simp)
  have hBW : Below w.heap.size w ((w.alloc (.cells (RS p) 24)).alloc (.cells (RS q) 24)) := below_alloc (below_alloc (Below.refl _ _) _) _
  go_enter Try.func25, Try.ntmps25
  go_wp2_with (first
    | (refine wpList_load_on (by rfl) 24 (.tmp 2) rfl _ rfl 24 (RS p) (0, 0) _ hP Try.underlying24 rfl (info24 _) ?_)
    | (refine wpList_load_on (by rfl) 24 (.tmp 3) rfl _ rfl 24 (RS q) (0, 0) _ hQ Try.underlying24 rfl (info24 _) ?_)
    | (refine wpList_load_on (by rfl) 24 (.tmp 5) rfl _ rfl 24 (RS m) (0, 0) _ hM Try.underlying24 rfl (info24 _) ?_)
    | (go_at_call 10; refine (meetR _ _ _).mono ?_; rintro e w1 ⟨rfl, hb⟩; rw [Hm.out]; replace hP := (hb.block _ (heap_lt hP)).trans hP; replace hBW := bel hBW hb; clear hb hQ)
    | (refine wpList_store_whole rfl 24 (.tmp 5) (.tmp 15) rfl ?g_s1 (RS m) ?c_s1 24 ?ha_s1 ?hb_s1 ?hc_s1 ?hd_s1 ?he_s1 ?hf_s1 ?_; (case ha_s1 => rfl); (case hb_s1 => rfl); (case hc_s1 => first | exact heap_alloc_new _ _ | (refine heap_new_at ?_; simp)); (case hd_s1 => rfl); (case he_s1 => exact info24 _); (case hf_s1 => kernel_rfl); intro w2 hM hs2 hfar hbel; go_must (replace hP := (hfar _ (Nat.ne_of_lt (heap_lt hP))).trans ((heap_alloc_old _ _ (heap_lt hP)).trans hP); replace hBW := hbel _ _ hBW.size (below_alloc hBW _); clear hfar hbel))
    | (refine wpList_bs24 rfl (.tmp 22) rfl p rfl ?_)
    | (go_at_call_of 12 (Value.agg (RS p)); refine (emptyR _ _).mono ?_; rintro e w3 ⟨rfl, hb⟩; have E := He.out; replace hBW := bel hBW hb; replace hP := (hb.block _ (heap_lt hP)).trans hP; replace hM := (hb.block _ (heap_lt hM)).trans hM; clear hb)
    | (go_at_call_of 12 (Value.agg (RS m)); refine (emptyR _ _).mono ?_; rintro e w4 ⟨rfl, hb⟩; have E := Hme.out; replace hBW := bel hBW hb; replace hP := (hb.block _ (heap_lt hP)).trans hP; clear hb))
  go_ret
  refine ⟨_, rfl, ?_, below_alloc hBW _⟩
  exact World.ownsRow_lit (base := w.heap.size) (e := 24) (size := 4) w4 (RS p) 1 hBW.size (by decide) rfl
end Go.Proofs.Ytjekoaodgdodjaa
