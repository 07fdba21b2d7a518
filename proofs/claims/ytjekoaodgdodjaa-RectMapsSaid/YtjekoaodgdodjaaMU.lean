/- Maps and rectangles that are not looked into. -/
import Derived.Test.YtjekoaodgdodjaaMD
set_option linter.unusedVariables false
set_option linter.unusedSimpArgs false
namespace Go.Proofs.Ytjekoaodgdodjaa
open Go.RowKit
open Go.Proofs.Ytjekoaodgdodjaa.Maps
def RS (r : R4) : Array Value := #[.int .i64 r.x, .int .i64 r.y, .int .i64 r.w, .int .i64 r.h]
def MS (m : M6) : Array Value := #[.int .i64 m.a, .int .i64 m.b, .int .i64 m.c, .int .i64 m.d, .int .i64 m.e, .int .i64 m.f]
theorem info23 (r : R4) : (Try.prog.info? 23).map (·.size) = some (RS r).size := by
  rw [show (RS r).size = 4 from rfl]
  kernel_rfl
theorem info24 (r : R4) : (Try.prog.info? 24).map (·.size) = some (RS r).size := by
  rw [show (RS r).size = 4 from rfl]
  kernel_rfl
theorem info36 (m : M6) : (Try.prog.info? 36).map (·.size) = some (MS m).size := by
  rw [show (MS m).size = 6 from rfl]
  kernel_rfl
theorem info37 (m : M6) : (Try.prog.info? 37).map (·.size) = some (MS m).size := by
  rw [show (MS m).size = 6 from rfl]
  kernel_rfl
theorem eqR_is (p q : R4) (W : World) : (Op.equalIn 10000 23 (.agg (RS p)) (.agg (RS q))).run Try.prog W = .ok (decide (p = q)) W := by
  have : (Op.equalIn 10000 23 (.agg (RS p)) (.agg (RS q))).run Try.prog W = .ok (p.x == q.x && (p.y == q.y && (p.w == q.w && p.h == q.h))) W := by
    have hu23 := Try.underlying23
    unfold RS
    go_simp
    by_cases h1 : p.x = q.x <;> by_cases h2 : p.y = q.y <;> by_cases h3 : p.w = q.w <;> by_cases h4 : p.h = q.h <;> simp [*]
  rw [this]
  congr 1
  rw [Bool.eq_iff_iff]
  cases p
  cases q
  simp
theorem eqM_is (p : M6) (W : World) : (Op.equalIn 10000 36 (.agg (MS p)) (.agg (MS p))).run Try.prog W = .ok true W := by
  have hu36 := Try.underlying36
  unfold MS
  go_simp
theorem refR4 (x y u v : Int) (w : World) : Calls Try.prog 24 #[.agg #[.int .i64 x, .int .i64 y, .int .i64 u, .int .i64 v]] w fun e w' => e = .returned (.agg #[.int .i64 x, .int .i64 y, .int .i64 u, .int .i64 v]) ∧ Below w.heap.size w w' := by
  go_enter Try.func24, Try.ntmps24
  go_wp2
  exact bodyPost_ret (v := .agg #[.int .i64 x, .int .i64 y, .int .i64 u, .int .i64 v]) (by simp [results, Try.results24, go_sem, *]) rfl ⟨rfl, by (repeat (first | with_reducible exact Below.refl _ _ | with_reducible apply below_alloc | with_reducible apply below_drew1 | with_reducible assumption | (with_reducible refine Keep.below (by assumption)) | (with_reducible refine bel ?_ (by assumption)) | ((with_reducible refine below_set ?_ ?_); rotate_left; (focus (first | assumption | omega | (simp; done) | (simp; omega))))))⟩
set_option maxHeartbeats 400000 in
theorem mapsM6 (a b c d e f : Int) (w : World) :
    Calls Try.prog 17 #[.agg #[.int .i64 a, .int .i64 b, .int .i64 c, .int .i64 d, .int .i64 e, .int .i64 f]] w fun r w' => r = .returned (.agg #[.int .i64 a, .int .i64 b, .int .i64 c, .int .i64 d, .int .i64 e, .int .i64 f]) ∧ Below w.heap.size w w' := by
  go_enter Try.func17, Try.ntmps17
  go_wp2
  exact bodyPost_ret (v := .agg #[.int .i64 a, .int .i64 b, .int .i64 c, .int .i64 d, .int .i64 e, .int .i64 f]) (by simp [results, Try.results17, go_sem, *]) rfl ⟨rfl, by (repeat (first | with_reducible exact Below.refl _ _ | with_reducible apply below_alloc | with_reducible apply below_drew1 | with_reducible assumption | (with_reducible refine Keep.below (by assumption)) | (with_reducible refine bel ?_ (by assumption)) | ((with_reducible refine below_set ?_ ?_); rotate_left; (focus (first | assumption | omega | (simp; done) | (simp; omega))))))⟩
set_option maxHeartbeats 400000 in
theorem refM6 (a b c d e f : Int) (w : World) :
    Calls Try.prog 38 #[.agg #[.int .i64 a, .int .i64 b, .int .i64 c, .int .i64 d, .int .i64 e, .int .i64 f]] w fun r w' => r = .returned (.agg #[.int .i64 a, .int .i64 b, .int .i64 c, .int .i64 d, .int .i64 e, .int .i64 f]) ∧ Below w.heap.size w w' := by
  go_enter Try.func38, Try.ntmps38
  go_wp2
  exact bodyPost_ret (v := .agg #[.int .i64 a, .int .i64 b, .int .i64 c, .int .i64 d, .int .i64 e, .int .i64 f]) (by simp [results, Try.results38, go_sem, *]) rfl ⟨rfl, by (repeat (first | with_reducible exact Below.refl _ _ | with_reducible apply below_alloc | with_reducible apply below_drew1 | with_reducible assumption | (with_reducible refine Keep.below (by assumption)) | (with_reducible refine bel ?_ (by assumption)) | ((with_reducible refine below_set ?_ ?_); rotate_left; (focus (first | assumption | omega | (simp; done) | (simp; omega))))))⟩
theorem ownR (p : R4) (w : World) : Calls Try.prog 7 #[.agg (RS p)] w fun e w' => e = .returned (.agg (RS p)) ∧ Below w.heap.size w w' := own_any _ _ _ _ w
theorem refR (p : R4) (w : World) : Calls Try.prog 24 #[.agg (RS p)] w fun e w' => e = .returned (.agg (RS p)) ∧ Below w.heap.size w w' := refR4 _ _ _ _ w
theorem mapsM (m : M6) (w : World) : Calls Try.prog 17 #[.agg (MS m)] w fun e w' => e = .returned (.agg (MS m)) ∧ Below w.heap.size w w' := mapsM6 _ _ _ _ _ _ w
theorem refM (m : M6) (w : World) : Calls Try.prog 38 #[.agg (MS m)] w fun e w' => e = .returned (.agg (MS m)) ∧ Below w.heap.size w w' := refM6 _ _ _ _ _ _ w
theorem fineM (m : M6) (w : World) : Calls Try.prog 18 #[.agg (MS m)] w fun e w' => e = .returned (.bool m.fine) ∧ Below w.heap.size w w' := fine_any _ _ _ _ _ _ w
theorem fineDM (m : M6) (w : World) : Calls Try.prog 33 #[.agg (MS m)] w fun e w' => e = .returned (.bool m.fine) ∧ Below w.heap.size w w' := fineD _ _ _ _ _ _ w
theorem pointM (m : M6) (x y p q r : Int) (h : pointF m x y = (p, q, r)) (w : World) : Calls Try.prog 20 #[.agg (MS m), .int .i64 x, .int .i64 y] w fun e w' => e = .returned (.tuple #[.int .i64 p, .int .i64 q, .int .i64 r]) ∧ Below w.heap.size w w' := by
  have H := point_any m.a m.b m.c m.d m.e m.f x y w
  rw [show (⟨m.a, m.b, m.c, m.d, m.e, m.f⟩ : M6) = m from rfl, h] at H
  exact H
theorem pointD (m : M6) (x y p q r : Int) (h : pointF m x y = (p, q, r)) (w : World) : Calls Try.prog 32 #[.agg (MS m), .int .i64 x, .int .i64 y] w fun e w' => e = .returned (.tuple #[.int .i64 p, .int .i64 q, .int .i64 r]) ∧ Below w.heap.size w w' := PPoint.dioramaref20_Point.calls 1 _ _ _ _ _ _ _ _ _ _ _ w (by rw [refPoint 0, h])
theorem boxM (m : M6) (r b : R4) (g : Int) (h : boxF m r = (b, g)) (w : World) : Calls Try.prog 15 #[.agg (MS m), .agg (RS r)] w fun e w' => e = .returned (.tuple #[.agg (RS b), .int .i64 g]) ∧ Below w.heap.size w w' := by
  have H := box_any m.a m.b m.c m.d m.e m.f r.x r.y r.w r.h w
  rw [show (⟨m.a, m.b, m.c, m.d, m.e, m.f⟩ : M6) = m from rfl, show (⟨r.x, r.y, r.w, r.h⟩ : R4) = r from rfl, h] at H
  exact H
theorem boxD (m : M6) (r b : R4) (g : Int) (h : boxF m r = (b, g)) (w : World) : Calls Try.prog 34 #[.agg (MS m), .agg (RS r)] w fun e w' => e = .returned (.tuple #[.agg (RS b), .int .i64 g]) ∧ Below w.heap.size w w' := PBox.dioramaref20_Box.calls 6 _ _ _ _ _ _ _ _ _ _ _ _ _ _ _ w (by rw [refBox, h])
theorem thenM (m n t : M6) (g : Int) (h : thenF m n = (t, g)) (w : World) : Calls Try.prog 16 #[.agg (MS m), .agg (MS n)] w fun e w' => e = .returned (.tuple #[.agg (MS t), .int .i64 g]) ∧ Below w.heap.size w w' := by
  have H := then_any m.a m.b m.c m.d m.e m.f n.a n.b n.c n.d n.e n.f w
  rw [show (⟨m.a, m.b, m.c, m.d, m.e, m.f⟩ : M6) = m from rfl, show (⟨n.a, n.b, n.c, n.d, n.e, n.f⟩ : M6) = n from rfl, h] at H
  exact H
theorem thenD (m n t : M6) (g : Int) (h : thenF m n = (t, g)) (w : World) : Calls Try.prog 35 #[.agg (MS m), .agg (MS n)] w fun e w' => e = .returned (.tuple #[.agg (MS t), .int .i64 g]) ∧ Below w.heap.size w w' := PThen.dioramaref20_Then.calls 1 _ _ _ _ _ _ _ _ _ _ _ _ _ _ _ _ _ _ _ w (by rw [refThen 0, h])
theorem backM (m t : M6) (g : Int) (h : backF m = (t, g)) (w : World) : Calls Try.prog 36 #[.agg (MS m)] w fun e w' => e = .returned (.tuple #[.agg (MS t), .int .i64 g]) ∧ Below w.heap.size w w' := by
  have H := back_any m w
  rw [h] at H
  exact H
theorem backDM (m t : M6) (g : Int) (h : backF m = (t, g)) (w : World) : Calls Try.prog 37 #[.agg (MS m)] w fun e w' => e = .returned (.tuple #[.agg (MS t), .int .i64 g]) ∧ Below w.heap.size w w' := by
  have H := backD_any m w
  rw [h] at H
  exact H
/-- Blocks that are known whole. -/
def AllC (W : World) (l : List (Nat × Nat × Array Value)) : Prop := ∀ x ∈ l, W.heap[x.1]? = some (.cells x.2.2 x.2.1 (0, 0))
theorem AllC.below {W w1 : World} {l : List (Nat × Nat × Array Value)} (h : AllC W l) (hb : Below W.heap.size W w1) : AllC w1 l := fun x hx => (hb.block _ (heap_lt (h x hx))).trans (h x hx)
theorem AllC.cons {W : World} {l : List (Nat × Nat × Array Value)} (h : AllC W l) {g T : Nat} {c : Array Value} (hg : W.heap[g]? = some (.cells c T (0, 0))) : AllC W ((g, T, c) :: l) := by
  intro x hx
  rcases List.mem_cons.1 hx with rfl | hx
  · exact hg
  · exact h x hx
theorem AllC.store {W w1 : World} {l : List (Nat × Nat × Array Value)} (h : AllC W l) {o : Obj} {T : Nat} {r : Array Value} (hs : w1.heap[W.heap.size]? = some (.cells r T (0, 0))) (far : ∀ k, k ≠ W.heap.size → w1.heap[k]? = (W.alloc o).heap[k]?) : AllC w1 ((W.heap.size, T, r) :: l) := by
  intro x hx
  rcases List.mem_cons.1 hx with rfl | hx
  · exact hs
  · exact (far _ (Nat.ne_of_lt (heap_lt (h x hx)))).trans ((heap_alloc_old _ _ (heap_lt (h x hx))).trans (h x hx))
end Go.Proofs.Ytjekoaodgdodjaa
