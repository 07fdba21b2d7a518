/- rect.Box at every input; plain laws of maps: the map that leaves all, the box of a rectangle. -/
import Derived.Test.YtjekoaodgdodjaaK
import Derived.Test.YtjekoaodgdodjaaG
set_option linter.unusedVariables false
set_option linter.unusedSimpArgs false
namespace Go.Proofs.Ytjekoaodgdodjaa
open Go.RowKit

def boxR (m : M6) (r : R4) : R4 :=
  let U0 := m.a * r.x + m.b * r.y
  let U1 := m.a * (r.x + r.w) + m.b * r.y
  let U2 := m.a * r.x + m.b * (r.y + r.h)
  let U3 := m.a * (r.x + r.w) + m.b * (r.y + r.h)
  let V0 := m.c * r.x + m.d * r.y
  let V1 := m.c * (r.x + r.w) + m.d * r.y
  let V2 := m.c * r.x + m.d * (r.y + r.h)
  let V3 := m.c * (r.x + r.w) + m.d * (r.y + r.h)
  ⟨min (min (min U0 U1) U2) U3 / 65536 + m.e, min (min (min V0 V1) V2) V3 / 65536 + m.f, upF (max (max (max U0 U1) U2) U3) + m.e - (min (min (min U0 U1) U2) U3 / 65536 + m.e), upF (max (max (max V0 V1) V2) V3) + m.f - (min (min (min V0 V1) V2) V3 / 65536 + m.f)⟩
def boxF (m : M6) (r : R4) : R4 × Int := if m.fine = true ∧ r.right = true then (if (boxR m r).right = true then (boxR m r, 0) else (.zero, 30)) else (.zero, 1)

set_option maxHeartbeats 1000000 in
theorem box_no (a b c d e f x y u v : Int) (w : World) (h : fineB a b c d e f = false ∨ rightB x y u v = false) :
    Calls Try.prog 15 #[.agg #[.int .i64 a, .int .i64 b, .int .i64 c, .int .i64 d, .int .i64 e, .int .i64 f], .agg #[.int .i64 x, .int .i64 y, .int .i64 u, .int .i64 v]] w fun r w' =>
      r = .returned (.tuple #[.agg #[.int .i64 0, .int .i64 0, .int .i64 0, .int .i64 0], .int .i64 1]) ∧ Below w.heap.size w w' := by
  cases m : fineB a b c d e f with
  | false =>
    clear h
    go_enter Try.func15, Try.ntmps15
    go_wp2_with (first | (go_at_call 18; refine (fine_any _ _ _ _ _ _ _).mono ?_; rintro e w1 ⟨rfl, hb⟩; (try replace hb := undrew hb); obtain ⟨hc, hf⟩ := ch hb; have hz := hb.size; (try simp only [World.size_alloc, World.size_setCell, World.size_drew] at hz); have zw0 : w.heap.size < w1.heap.size := (by omega); have zw1 : w.heap.size + 1 < w1.heap.size := (by omega); have zw2 : w.heap.size + 1 + 1 < w1.heap.size := (by omega)) | (go_at_call 8; refine (right_any _ _ _ _ _).mono ?_; rintro e w1 ⟨rfl, hb⟩; (try replace hb := undrew hb); obtain ⟨hc, hf⟩ := ch hb; have hz := hb.size; (try simp only [World.size_alloc, World.size_setCell, World.size_drew] at hz); have zw0 : w.heap.size < w1.heap.size := (by omega); have zw1 : w.heap.size + 1 < w1.heap.size := (by omega); have zw2 : w.heap.size + 1 + 1 < w1.heap.size := (by omega)))
    exact bodyPost_ret (v := .tuple #[.agg #[.int .i64 0, .int .i64 0, .int .i64 0, .int .i64 0], .int .i64 1]) (by simp [results, Try.results15, go_sem, *]) rfl ⟨rfl, by (repeat (first | with_reducible exact Below.refl _ _ | with_reducible apply below_alloc | with_reducible apply below_drew1 | with_reducible assumption | (with_reducible refine Keep.below (by assumption)) | (with_reducible refine bel ?_ (by assumption)) | ((with_reducible refine below_set ?_ ?_); rotate_left; (focus (first | assumption | omega | (simp; done) | (simp; omega))))))⟩
  | true =>
    have r : rightB x y u v = false := by simpa [m] using h
    clear h
    go_enter Try.func15, Try.ntmps15
    go_wp2_with (first | (go_at_call 18; refine (fine_any _ _ _ _ _ _ _).mono ?_; rintro e w1 ⟨rfl, hb⟩; (try replace hb := undrew hb); obtain ⟨hc, hf⟩ := ch hb; have hz := hb.size; (try simp only [World.size_alloc, World.size_setCell, World.size_drew] at hz); have zw0 : w.heap.size < w1.heap.size := (by omega); have zw1 : w.heap.size + 1 < w1.heap.size := (by omega); have zw2 : w.heap.size + 1 + 1 < w1.heap.size := (by omega)) | (go_at_call 8; refine (right_any _ _ _ _ _).mono ?_; rintro e w1 ⟨rfl, hb⟩; (try replace hb := undrew hb); obtain ⟨hc, hf⟩ := ch hb; have hz := hb.size; (try simp only [World.size_alloc, World.size_setCell, World.size_drew] at hz); have zw0 : w.heap.size < w1.heap.size := (by omega); have zw1 : w.heap.size + 1 < w1.heap.size := (by omega); have zw2 : w.heap.size + 1 + 1 < w1.heap.size := (by omega)))
    exact bodyPost_ret (v := .tuple #[.agg #[.int .i64 0, .int .i64 0, .int .i64 0, .int .i64 0], .int .i64 1]) (by simp [results, Try.results15, go_sem, *]) rfl ⟨rfl, by (repeat (first | with_reducible exact Below.refl _ _ | with_reducible apply below_alloc | with_reducible apply below_drew1 | with_reducible assumption | (with_reducible refine Keep.below (by assumption)) | (with_reducible refine bel ?_ (by assumption)) | ((with_reducible refine below_set ?_ ?_); rotate_left; (focus (first | assumption | omega | (simp; done) | (simp; omega))))))⟩

theorem box_any (a b c d e f x y u v : Int) (w : World) :
    Calls Try.prog 15 #[.agg #[.int .i64 a, .int .i64 b, .int .i64 c, .int .i64 d, .int .i64 e, .int .i64 f], .agg #[.int .i64 x, .int .i64 y, .int .i64 u, .int .i64 v]] w fun r w' =>
      r = .returned (.tuple #[(boxF ⟨a, b, c, d, e, f⟩ ⟨x, y, u, v⟩).1.v, .int .i64 (boxF ⟨a, b, c, d, e, f⟩ ⟨x, y, u, v⟩).2]) ∧ Below w.heap.size w w' := by
  by_cases h : fineB a b c d e f = true ∧ rightB x y u v = true
  · obtain ⟨m, r⟩ := h
    obtain ⟨⟨p1, p2, p3, p4, p5, p6⟩, p7, p8, p9, p10, p11, p12⟩ := fine_bd m
    obtain ⟨a1, a2, a3, a4, a5, a6, a7, a8⟩ := right_bd r
    have key : ∀ (x' y' u' v' je : Int), (∀ W : World, Calls Try.prog 46 #[(boxR ⟨a, b, c, d, e, f⟩ ⟨x, y, u, v⟩).v] W fun r w' => r = .returned (.tuple #[.agg #[.int .i64 x', .int .i64 y', .int .i64 u', .int .i64 v'], .int .i64 je]) ∧ Below W.heap.size W w') →
        Calls Try.prog 15 #[.agg #[.int .i64 a, .int .i64 b, .int .i64 c, .int .i64 d, .int .i64 e, .int .i64 f], .agg #[.int .i64 x, .int .i64 y, .int .i64 u, .int .i64 v]] w fun r w' =>
          r = .returned (.tuple #[.agg #[.int .i64 x', .int .i64 y', .int .i64 u', .int .i64 v'], .int .i64 je]) ∧ Below w.heap.size w w' := by
      intro x' y' u' v' je hfit
      exact box_walk a b c d e f x y u v _ _ _ _ _ _ _ _ _ _ _ _ je x' y' u' v' w m r rfl rfl rfl rfl rfl rfl rfl rfl
        (sum_bd p1 p2 p3 p4 (by omega) (by omega) (by omega) (by omega)) (sum_bd p1 p2 p3 p4 (by omega) (by omega) (by omega) (by omega)) (sum_bd p1 p2 p3 p4 (by omega) (by omega) (by omega) (by omega)) (sum_bd p1 p2 p3 p4 (by omega) (by omega) (by omega) (by omega))
        (sum_bd p5 p6 p7 p8 (by omega) (by omega) (by omega) (by omega)) (sum_bd p5 p6 p7 p8 (by omega) (by omega) (by omega) (by omega)) (sum_bd p5 p6 p7 p8 (by omega) (by omega) (by omega) (by omega)) (sum_bd p5 p6 p7 p8 (by omega) (by omega) (by omega) (by omega))
        rfl rfl rfl rfl hfit
    have hm : M6.fine ⟨a, b, c, d, e, f⟩ = true := m
    have hr : R4.right ⟨x, y, u, v⟩ = true := r
    unfold boxF
    rw [if_pos ⟨hm, hr⟩]
    by_cases g : (boxR ⟨a, b, c, d, e, f⟩ ⟨x, y, u, v⟩).right = true
    · rw [if_pos g]
      exact key _ _ _ _ _ (fun W => fit_yes _ _ _ _ W g)
    · rw [if_neg g]
      exact key _ _ _ _ _ (fun W => fit_no _ _ _ _ W (by simpa [R4.right] using g))
  · have h' : fineB a b c d e f = false ∨ rightB x y u v = false := by
      cases m : fineB a b c d e f with
      | false => exact .inl rfl
      | true => exact .inr (by simpa [m] using h)
    have h2 : ¬ (M6.fine ⟨a, b, c, d, e, f⟩ = true ∧ R4.right ⟨x, y, u, v⟩ = true) := h
    unfold boxF
    rw [if_neg h2]
    exact box_no a b c d e f x y u v w h'

def M6.one : M6 := ⟨65536, 0, 0, 65536, 0, 0⟩
theorem box_one {r : R4} (h : r.right = true) : boxF .one r = (r, 0) := by
  have b := (right_iff r).1 h
  have e : boxR .one r = r := by
    cases r with
    | mk x y u v =>
      simp only [boxR, M6.one, upF, R4.mk.injEq] at b ⊢
      omega
  unfold boxF
  rw [if_pos ⟨by decide, h⟩, e, if_pos h]
theorem near_whole (n : Int) : nearF (65536 * n) 65536 = n := by
  simp only [nearF, nearP]
  rw [if_neg (by omega), if_neg (by omega)]
  omega
theorem then_one {m : M6} (h : m.fine = true) : thenF m .one = (m, 0) ∧ thenF .one m = (m, 0) := by
  have e1 : afterF m .one = m := by
    cases m with
    | mk a b c d e f =>
      simp only [afterF, M6.one, Int.zero_mul, Int.add_zero, Int.zero_add, near_whole]
  have e2 : afterF .one m = m := by
    cases m with
    | mk a b c d e f =>
      simp only [afterF, M6.one, Int.mul_zero, Int.add_zero, Int.zero_add, Int.mul_comm _ 65536, near_whole]
      simp [nearF, nearP]
  unfold thenF
  rw [e1, e2, if_pos ⟨h, by decide⟩, if_pos h, if_pos ⟨by decide, h⟩]
  exact ⟨rfl, rfl⟩
theorem mul_between {a x lo hi : Int} (h1 : lo ≤ x) (h2 : x ≤ hi) : min (a * lo) (a * hi) ≤ a * x ∧ a * x ≤ max (a * lo) (a * hi) := by
  rcases Int.le_total 0 a with h | h
  · have := Int.mul_le_mul_of_nonneg_left h1 h
    have := Int.mul_le_mul_of_nonneg_left h2 h
    omega
  · have := Int.mul_le_mul_of_nonpos_left h h1
    have := Int.mul_le_mul_of_nonpos_left h h2
    omega
theorem in_box {m : M6} {r : R4} {x y : Int} (hh : holdsF r x y = true) (hp : (pointF m x y).2.2 = 0) (hb : (boxF m r).2 = 0) :
    (boxF m r).1.x ≤ (pointF m x y).1 ∧ (boxF m r).1.y ≤ (pointF m x y).2.1 ∧ (pointF m x y).1 ≤ (boxF m r).1.x + (boxF m r).1.w ∧ (pointF m x y).2.1 ≤ (boxF m r).1.y + (boxF m r).1.h := by
  simp only [holdsF, sholdsB, Bool.and_eq_true, decide_eq_true_eq] at hh
  unfold boxF at hb ⊢
  by_cases c : m.fine = true ∧ r.right = true
  · rw [if_pos c] at hb ⊢
    by_cases g : (boxR m r).right = true
    · rw [if_pos g] at hb ⊢
      unfold pointF at hp ⊢
      by_cases c2 : m.fine = true ∧ inB x 8589934592 = true ∧ inB y 8589934592 = true
      · rw [if_pos c2] at hp ⊢
        by_cases c3 : inB ((m.a * x + m.b * y) / 65536 + m.e) 4294967296 = true ∧ inB ((m.c * x + m.d * y) / 65536 + m.f) 4294967296 = true
        · rw [if_pos c3] at hp ⊢
          obtain ⟨a1, a2⟩ := mul_between (a := m.a) (show r.x ≤ x by omega) (show x ≤ r.x + r.w by omega)
          obtain ⟨a3, a4⟩ := mul_between (a := m.b) (show r.y ≤ y by omega) (show y ≤ r.y + r.h by omega)
          obtain ⟨a5, a6⟩ := mul_between (a := m.c) (show r.x ≤ x by omega) (show x ≤ r.x + r.w by omega)
          obtain ⟨a7, a8⟩ := mul_between (a := m.d) (show r.y ≤ y by omega) (show y ≤ r.y + r.h by omega)
          simp only [boxR, upF]
          generalize m.a * r.x = A0 at *
          generalize m.a * (r.x + r.w) = A1 at *
          generalize m.b * r.y = B0 at *
          generalize m.b * (r.y + r.h) = B1 at *
          generalize m.c * r.x = C0 at *
          generalize m.c * (r.x + r.w) = C1 at *
          generalize m.d * r.y = D0 at *
          generalize m.d * (r.y + r.h) = D1 at *
          generalize m.a * x = A at *
          generalize m.b * y = B at *
          generalize m.c * x = C at *
          generalize m.d * y = D at *
          clear hh hp hb c c2 c3 g
          refine ⟨?_, ?_, ?_, ?_⟩
          · have : min (min (min (A0 + B0) (A1 + B0)) (A0 + B1)) (A1 + B1) ≤ A + B := by omega
            generalize min (min (min (A0 + B0) (A1 + B0)) (A0 + B1)) (A1 + B1) = Z at *
            omega
          · have : min (min (min (C0 + D0) (C1 + D0)) (C0 + D1)) (C1 + D1) ≤ C + D := by omega
            generalize min (min (min (C0 + D0) (C1 + D0)) (C0 + D1)) (C1 + D1) = Z at *
            omega
          · have : A + B ≤ max (max (max (A0 + B0) (A1 + B0)) (A0 + B1)) (A1 + B1) := by omega
            generalize max (max (max (A0 + B0) (A1 + B0)) (A0 + B1)) (A1 + B1) = Z at *
            generalize min (min (min (A0 + B0) (A1 + B0)) (A0 + B1)) (A1 + B1) = Y at *
            omega
          · have : C + D ≤ max (max (max (C0 + D0) (C1 + D0)) (C0 + D1)) (C1 + D1) := by omega
            generalize max (max (max (C0 + D0) (C1 + D0)) (C0 + D1)) (C1 + D1) = Z at *
            generalize min (min (min (C0 + D0) (C1 + D0)) (C0 + D1)) (C1 + D1) = Y at *
            omega
        · rw [if_neg c3] at hp; cases hp
      · rw [if_neg c2] at hp; cases hp
    · rw [if_neg g] at hb; cases hb
  · rw [if_neg c] at hb; cases hb
end Go.Proofs.Ytjekoaodgdodjaa
