/- The document's maps are the program's: plain. -/
import Derived.Test.YtjekoaodgdodjaaL
import Derived.Test.YtjekoaodgdodjaaPXd
import Derived.Test.YtjekoaodgdodjaaPXb
import Derived.Test.YtjekoaodgdodjaaPXe
set_option linter.unusedVariables false
set_option linter.unusedSimpArgs false
namespace Go.Proofs.Ytjekoaodgdodjaa
open Go.RowKit
open Go.Proofs.YtjekoaodgdodjaaW.PrintWords (mx mn)
open PThen
namespace Maps
theorem w_in {n : Int} (h1 : -9223372036854775808 ≤ n) (h2 : n ≤ 9223372036854775807) : wrap64 n = n := by unfold wrap64; omega
theorem mx_max (a b : Int) : mx a b = max a b := by unfold mx; omega
theorem mn_min (a b : Int) : mn a b = min a b := by unfold mn; omega
theorem refIn (n m : Int) (h0 : 0 ≤ m) (h1 : m ≤ 1099511627776) : dioramaref20_in.f n m = some (inB n m) := by
  unfold dioramaref20_in.f inB
  rw [w_in (n := -m) (by omega) (by omega)]
  by_cases h : n ≥ -m
  · rw [if_pos h]; simp [show -m ≤ n from h]
  · rw [if_neg h]; simp [show ¬ -m ≤ n from h]
theorem inBox (n m : Int) (h0 : 0 ≤ m) (h1 : m ≤ 1099511627776) : PBox.dioramaref20_in.f n m = some (inB n m) := refIn n m h0 h1
theorem refRight (x y u v : Int) : PBox.dioramaref20_Right.f x y u v = some (rightB x y u v) := by
  unfold PBox.dioramaref20_Right.f rightB
  simp only [inBox _ 4294967296 (by omega) (by omega), Option.bind_some]
  cases inB x 4294967296 <;> cases inB y 4294967296 <;> simp only [Bool.false_eq_true, if_false, if_true, Bool.false_and, Bool.true_and]
  by_cases h1 : u ≥ 0
  · rw [if_pos h1]
    by_cases h2 : u ≤ 4294967296
    · rw [if_pos h2]
      by_cases h3 : v ≥ 0
      · rw [if_pos h3]; simp [show 0 ≤ u from h1, h2, show 0 ≤ v from h3]
      · rw [if_neg h3]; simp [show ¬ 0 ≤ v from h3]
    · rw [if_neg h2]; simp [h2]
  · rw [if_neg h1]; simp [show ¬ 0 ≤ u from h1]
theorem refFit (x y u v : Int) : PBox.dioramaref20_fit.f x y u v = some (if rightB x y u v = true then (x, y, u, v, 0) else (0, 0, 0, 0, 30)) := by
  unfold PBox.dioramaref20_fit.f
  simp only [refRight, Option.bind_some]
  split <;> rfl
theorem refFine (a b c d e f : Int) : dioramaref20_Fine.f a b c d e f = some (fineB a b c d e f) := by
  unfold dioramaref20_Fine.f fineB
  simp only [refIn _ 4294967296 (by omega) (by omega), refIn _ 16777216 (by omega) (by omega), Option.bind_some]
  cases inB a 16777216 <;> cases inB b 16777216 <;> cases inB c 16777216 <;> cases inB d 16777216 <;> cases inB e 4294967296 <;> simp
theorem reffine (a b c d e f : Int) : dioramaref20_fine.f a b c d e f = some (if fineB a b c d e f = true then (a, b, c, d, e, f, 0) else (0, 0, 0, 0, 0, 0, 30)) := by
  unfold dioramaref20_fine.f
  simp only [refFine, Option.bind_some]
  split <;> rfl
theorem refDown (n b : Int) (hb : 0 < b) (h1 : -4611686018427387904 ≤ n) (h2 : n ≤ 4611686018427387904) : dioramaref20_down.f n b = some (n / b) := by
  unfold dioramaref20_down.f
  have t := tdiv_bd hb h1 h2
  rw [if_neg (by omega), w_in (n := n.tdiv b) (by omega) (by omega)]
  by_cases h : n.tmod b < 0
  · rw [if_pos h, w_in (n := n.tdiv b - 1) (by omega) (by omega), ← (floor_neg hb h).1]
  · rw [if_neg h, ← (floor_pos hb (by omega)).1]
theorem refNearP (n b : Int) (hb : 0 < b) (hb2 : b ≤ 1152921504606846976) (h1 : -4611686018427387904 ≤ n) (h2 : n ≤ 4611686018427387904) :
    ((dioramaref20_down.f n b).bind fun t => (if (wrap64 (2 * (wrap64 (n - (wrap64 (t * b)))))) ≥ b then (some (wrap64 (t + 1))) else (some t))) = some (nearP n b) := by
  rw [refDown n b hb h1 h2]
  simp only [Option.bind_some]
  have e : n / b * b + n % b = n := Int.ediv_mul_add_emod n b
  have m0 : 0 ≤ n % b := Int.emod_nonneg n (by omega)
  have m1 : n % b < b := Int.emod_lt_of_pos n hb
  obtain ⟨q, hq⟩ : ∃ q, q = n / b * b := ⟨_, rfl⟩
  rw [← hq] at e ⊢
  have bd := nearP_bd hb h1 h2
  have q1 : -4611686018427387905 - 1 ≤ n / b ∧ n / b ≤ 4611686018427387905 := by
    unfold nearP at bd
    split at bd <;> omega
  rw [w_in (n := q) (by omega) (by omega), w_in (n := n - q) (by omega) (by omega), w_in (n := 2 * (n - q)) (by omega) (by omega), w_in (n := n / b + 1) (by omega) (by omega)]
  unfold nearP
  by_cases h : b - n % b ≤ n % b
  · rw [if_pos h, if_pos (by omega)]
  · rw [if_neg h, if_neg (by omega), Int.add_zero]
theorem refNear (n b : Int) (hb : ¬ b = 0) (hb1 : -1152921504606846976 ≤ b) (hb2 : b ≤ 1152921504606846976) (h1 : -4611686018427387904 ≤ n) (h2 : n ≤ 4611686018427387904) : dioramaref20_near.f n b = some (nearF n b) := by
  unfold dioramaref20_near.f nearF
  by_cases h : b < 0
  · rw [if_pos h, if_pos h, w_in (n := -n) (by omega) (by omega), w_in (n := -b) (by omega) (by omega)]
    exact refNearP (-n) (-b) (by omega) (by omega) (by omega) (by omega)
  · rw [if_neg h, if_neg h]
    exact refNearP n b (by omega) (by omega) h1 h2
/-- A linear form, its wraps struck. -/
theorem lin {a b x y : Int} (ha1 : -16777216 ≤ a) (ha2 : a ≤ 16777216) (hb1 : -16777216 ≤ b) (hb2 : b ≤ 16777216) (hx1 : -8589934592 ≤ x) (hx2 : x ≤ 8589934592) (hy1 : -8589934592 ≤ y) (hy2 : y ≤ 8589934592) :
    wrap64 (wrap64 (a * x) + wrap64 (b * y)) = a * x + b * y := by
  obtain ⟨q1, q2⟩ := mul_bd ha1 ha2 hx1 hx2 (by omega) (by omega)
  obtain ⟨q3, q4⟩ := mul_bd hb1 hb2 hy1 hy2 (by omega) (by omega)
  simp at q1 q2 q3 q4
  rw [w_in (n := a * x) (by omega) (by omega), w_in (n := b * y) (by omega) (by omega), w_in (by omega) (by omega)]
theorem fineBox (a b c d e f : Int) : PBox.dioramaref20_Fine.f a b c d e f = some (fineB a b c d e f) := refFine a b c d e f
theorem downBox (n b : Int) (hb : 0 < b) (h1 : -4611686018427387904 ≤ n) (h2 : n ≤ 4611686018427387904) : PBox.dioramaref20_down.f n b = some (n / b) := refDown n b hb h1 h2
theorem inPoint (n m : Int) (h0 : 0 ≤ m) (h1 : m ≤ 1099511627776) : PPoint.dioramaref20_in.f n m = some (inB n m) := refIn n m h0 h1
theorem finePoint (a b c d e f : Int) : PPoint.dioramaref20_Fine.f a b c d e f = some (fineB a b c d e f) := refFine a b c d e f
theorem downPoint (n b : Int) (hb : 0 < b) (h1 : -4611686018427387904 ≤ n) (h2 : n ≤ 4611686018427387904) : PPoint.dioramaref20_down.f n b = some (n / b) := refDown n b hb h1 h2
theorem refPoint (k : Nat) (m : M6) (x y : Int) : PPoint.dioramaref20_Point.f (k + 1) m.a m.b m.c m.d m.e m.f x y = some (pointF m x y) := by
  unfold PPoint.dioramaref20_Point.f pointF
  simp only [finePoint, inPoint _ 8589934592 (by omega) (by omega), Option.bind_some]
  by_cases h : fineB m.a m.b m.c m.d m.e m.f = true
  case neg =>
    have h' : ¬ m.fine = true := h
    rw [if_neg h, if_neg (fun q => h' q.1)]
    simp [PPoint.dioramaref20_Point.j0]
  case pos =>
    have h' : m.fine = true := h
    rw [if_pos h]
    by_cases hx : inB x 8589934592 = true
    case neg =>
      rw [if_neg hx, if_neg (fun q => hx q.2.1)]
      simp [PPoint.dioramaref20_Point.j0]
    case pos =>
      rw [if_pos hx]
      by_cases hy : inB y 8589934592 = true
      case neg =>
        rw [if_neg (fun q => hy q.2.2)]
        simp [PPoint.dioramaref20_Point.j0, hy]
      case pos =>
        rw [if_pos ⟨h', hx, hy⟩]
        obtain ⟨⟨a1, a2, b1, b2, c1, c2⟩, d1, d2, e1, e2, f1, f2⟩ := fine_bd h
        have x1 := in_bd hx
        have y1 := in_bd hy
        simp only [PPoint.dioramaref20_Point.j0, hy, Bool.not_true, Bool.false_eq_true, if_false]
        rw [lin a1 a2 b1 b2 x1.1 x1.2 y1.1 y1.2, lin c1 c2 d1 d2 x1.1 x1.2 y1.1 y1.2]
        have s1 := sum_bd a1 a2 b1 b2 x1.1 x1.2 y1.1 y1.2
        have s2 := sum_bd c1 c2 d1 d2 x1.1 x1.2 y1.1 y1.2
        rw [downPoint _ 65536 (by omega) s1.1 s1.2, downPoint _ 65536 (by omega) s2.1 s2.2]
        simp only [Option.bind_some]
        rw [w_in (n := (m.a * x + m.b * y) / 65536 + m.e) (by omega) (by omega), w_in (n := (m.c * x + m.d * y) / 65536 + m.f) (by omega) (by omega)]
        simp only [inPoint _ 4294967296 (by omega) (by omega), Option.bind_some]
        by_cases g1 : inB ((m.a * x + m.b * y) / 65536 + m.e) 4294967296 = true
        · rw [if_pos g1]
          by_cases g2 : inB ((m.c * x + m.d * y) / 65536 + m.f) 4294967296 = true
          · rw [if_pos g2, if_pos ⟨g1, g2⟩]
          · rw [if_neg g2, if_neg (fun q => g2 q.2)]
        · rw [if_neg g1, if_neg (fun q => g1 q.1)]
theorem refThen (k : Nat) (m n : M6) : dioramaref20_Then.f (k + 1) m.a m.b m.c m.d m.e m.f n.a n.b n.c n.d n.e n.f = some ((thenF m n).1.a, (thenF m n).1.b, (thenF m n).1.c, (thenF m n).1.d, (thenF m n).1.e, (thenF m n).1.f, (thenF m n).2) := by
  unfold dioramaref20_Then.f
  simp only [refFine, Option.bind_some]
  cases h : fineB m.a m.b m.c m.d m.e m.f with
  | false => simp [dioramaref20_Then.j0, thenF, M6.fine, h, M6.zero]
  | true =>
    cases h' : fineB n.a n.b n.c n.d n.e n.f with
    | false => simp [dioramaref20_Then.j0, thenF, M6.fine, h, h', M6.zero]
    | true =>
      obtain ⟨⟨a1, a2, b1, b2, c1, c2⟩, d1, d2, e1, e2, f1, f2⟩ := fine_bd h
      obtain ⟨⟨A1, A2, B1, B2, C1, C2⟩, D1, D2, E1, E2, F1, F2⟩ := fine_bd h'
      simp only [if_true, Bool.not_true, dioramaref20_Then.j0, Bool.false_eq_true, if_false]
      have L : ∀ {p q x y : Int}, -16777216 ≤ p → p ≤ 16777216 → -16777216 ≤ q → q ≤ 16777216 → -8589934592 ≤ x → x ≤ 8589934592 → -8589934592 ≤ y → y ≤ 8589934592 →
          dioramaref20_near.f (wrap64 (wrap64 (p * x) + wrap64 (q * y))) 65536 = some (nearF (p * x + q * y) 65536) ∧ -4611686018427387905 ≤ nearF (p * x + q * y) 65536 ∧ nearF (p * x + q * y) 65536 ≤ 4611686018427387905 := by
        intro p q x y h1 h2 h3 h4 h5 h6 h7 h8
        have s := sum_bd h1 h2 h3 h4 h5 h6 h7 h8
        rw [lin h1 h2 h3 h4 h5 h6 h7 h8, refNear _ 65536 (by omega) (by omega) (by omega) s.1 s.2]
        exact ⟨rfl, near_bd s.1 s.2⟩
      rw [(L A1 A2 B1 B2 (by omega : -8589934592 ≤ m.a) (by omega) (by omega : -8589934592 ≤ m.c) (by omega)).1, (L A1 A2 B1 B2 (by omega : -8589934592 ≤ m.b) (by omega) (by omega : -8589934592 ≤ m.d) (by omega)).1,
        (L C1 C2 D1 D2 (by omega : -8589934592 ≤ m.a) (by omega) (by omega : -8589934592 ≤ m.c) (by omega)).1, (L C1 C2 D1 D2 (by omega : -8589934592 ≤ m.b) (by omega) (by omega : -8589934592 ≤ m.d) (by omega)).1,
        (L A1 A2 B1 B2 (by omega : -8589934592 ≤ m.e) (by omega) (by omega : -8589934592 ≤ m.f) (by omega)).1, (L C1 C2 D1 D2 (by omega : -8589934592 ≤ m.e) (by omega) (by omega : -8589934592 ≤ m.f) (by omega)).1]
      have z1 := (L A1 A2 B1 B2 (by omega : -8589934592 ≤ m.e) (by omega) (by omega : -8589934592 ≤ m.f) (by omega)).2
      have z2 := (L C1 C2 D1 D2 (by omega : -8589934592 ≤ m.e) (by omega) (by omega : -8589934592 ≤ m.f) (by omega)).2
      simp only [Option.bind_some]
      rw [w_in (n := nearF (n.a * m.e + n.b * m.f) 65536 + n.e) (by omega) (by omega), w_in (n := nearF (n.c * m.e + n.d * m.f) 65536 + n.f) (by omega) (by omega), reffine]
      simp only [Option.bind_some, thenF, M6.fine, h, h', and_self, if_true, afterF]
      split <;> simp_all [M6.zero]
def backP (m : M6) (by_ : Int) : M6 := ⟨nearF (m.d * 4294967296) by_, nearF (-m.b * 4294967296) by_, nearF (-m.c * 4294967296) by_, nearF (m.a * 4294967296) by_, 0, 0⟩
def backR (m p : M6) : M6 := ⟨p.a, p.b, p.c, p.d, -nearF (p.a * m.e + p.b * m.f) 65536, -nearF (p.c * m.e + p.d * m.f) 65536⟩
def detF (m : M6) : Int := m.a * m.d - m.b * m.c
def backF (m : M6) : M6 × Int := if m.fine = true then (if detF m = 0 then (.zero, 31) else if (backP m (detF m)).fine = true then (if (backR m (backP m (detF m))).fine = true then (backR m (backP m (detF m)), 0) else (.zero, 30)) else (.zero, 30)) else (.zero, 1)
theorem det_bd {m : M6} (h : m.fine = true) : -562949953421312 ≤ detF m ∧ detF m ≤ 562949953421312 ∧ wrap64 (wrap64 (m.a * m.d) - wrap64 (m.b * m.c)) = detF m := by
  obtain ⟨⟨a1, a2, b1, b2, c1, c2⟩, d1, d2, e1, e2, f1, f2⟩ := fine_bd h
  obtain ⟨q1, q2⟩ := mul_bd a1 a2 d1 d2 (by omega) (by omega)
  obtain ⟨q3, q4⟩ := mul_bd b1 b2 c1 c2 (by omega) (by omega)
  simp at q1 q2 q3 q4
  unfold detF
  rw [w_in (n := m.a * m.d) (by omega) (by omega), w_in (n := m.b * m.c) (by omega) (by omega), w_in (by omega) (by omega)]
  omega
theorem boxStep (k : Nat) (a b c d e f x y u v x6 x7 x8 x9 i X Y U V j : Int) (hX : wrap64 (x + wrap64 (Int.tmod i 2 * u)) = X) (hY : wrap64 (y + wrap64 (wrap64 (Int.tdiv i 2) * v)) = Y) (hU : wrap64 (wrap64 (a * X) + wrap64 (b * Y)) = U) (hV : wrap64 (wrap64 (c * X) + wrap64 (d * Y)) = V) (hi : i < 4) (hj : wrap64 (i + 1) = j) :
    PBox.dioramaref20_Box.l0 (k + 1) x6 x7 x8 x9 i a b c d e f x y u v = if i = 0 then PBox.dioramaref20_Box.l0 k (mn U U) (mn V V) (mx U U) (mx V V) j a b c d e f x y u v else PBox.dioramaref20_Box.l0 k (mn x6 U) (mn x7 V) (mx x8 U) (mx x9 V) j a b c d e f x y u v := by
  subst hX hY hU hV hj
  rw [PBox.dioramaref20_Box.l0, if_pos hi]
theorem boxEnd (k : Nat) (m : M6) (r : R4) (L T R B : Int) (hm : m.fine = true) (hL : -4611686018427387904 ≤ L ∧ L ≤ 4611686018427387904) (hT : -4611686018427387904 ≤ T ∧ T ≤ 4611686018427387904) (hR : -4611686018427387904 ≤ R ∧ R ≤ 4611686018427387904) (hB : -4611686018427387904 ≤ B ∧ B ≤ 4611686018427387904) (q : R4)
    (hq : q = ⟨L / 65536 + m.e, T / 65536 + m.f, upF R + m.e - (L / 65536 + m.e), upF B + m.f - (T / 65536 + m.f)⟩) :
    PBox.dioramaref20_Box.l0 (k + 1) L T R B 4 m.a m.b m.c m.d m.e m.f r.x r.y r.w r.h = some (if q.right = true then (q.x, q.y, q.w, q.h, 0) else (0, 0, 0, 0, 30)) := by
  obtain ⟨⟨a1, a2, b1, b2, c1, c2⟩, d1, d2, e1, e2, f1, f2⟩ := fine_bd (show fineB m.a m.b m.c m.d m.e m.f = true from hm)
  rw [PBox.dioramaref20_Box.l0, if_neg (by omega), w_in (n := -R) (by omega) (by omega), w_in (n := -B) (by omega) (by omega)]
  rw [downBox _ 65536 (by omega) hL.1 hL.2, downBox _ 65536 (by omega) hT.1 hT.2, downBox _ 65536 (by omega) (by omega) (by omega), downBox _ 65536 (by omega) (by omega) (by omega)]
  simp only [Option.bind_some, PBox.dioramaref20_edges.f]
  rw [w_in (n := L / 65536 + m.e) (by omega) (by omega), w_in (n := T / 65536 + m.f) (by omega) (by omega), w_in (n := -(-R / 65536)) (by omega) (by omega), w_in (n := -(-B / 65536)) (by omega) (by omega), w_in (n := -(-R / 65536) + m.e) (by omega) (by omega), w_in (n := -(-B / 65536) + m.f) (by omega) (by omega),
    w_in (n := -(-R / 65536) + m.e - (L / 65536 + m.e)) (by omega) (by omega), w_in (n := -(-B / 65536) + m.f - (T / 65536 + m.f)) (by omega) (by omega), refFit]
  subst hq
  rfl
theorem refBox (m : M6) (r : R4) : PBox.dioramaref20_Box.f 6 m.a m.b m.c m.d m.e m.f r.x r.y r.w r.h = some ((boxF m r).1.x, (boxF m r).1.y, (boxF m r).1.w, (boxF m r).1.h, (boxF m r).2) := by
  unfold PBox.dioramaref20_Box.f
  simp only [fineBox, refRight, Option.bind_some]
  cases h : fineB m.a m.b m.c m.d m.e m.f with
  | false => simp [PBox.dioramaref20_Box.j0, boxF, M6.fine, h, R4.zero]
  | true =>
    cases h' : rightB r.x r.y r.w r.h with
    | false => simp [PBox.dioramaref20_Box.j0, boxF, M6.fine, R4.right, h, h', R4.zero]
    | true =>
      have hm : m.fine = true := h
      have hr : r.right = true := h'
      obtain ⟨⟨a1, a2, b1, b2, c1, c2⟩, d1, d2, e1, e2, f1, f2⟩ := fine_bd h
      obtain ⟨x1, x2, y1, y2, u1, u2, v1, v2⟩ := right_bd h'
      simp only [if_true, Bool.not_true, PBox.dioramaref20_Box.j0, Bool.false_eq_true, if_false]
      have m0 : Int.tmod 0 2 = 0 := rfl
      have m1 : Int.tmod 1 2 = 1 := rfl
      have m2 : Int.tmod 2 2 = 0 := rfl
      have m3 : Int.tmod 3 2 = 1 := rfl
      have t0 : wrap64 (Int.tdiv 0 2) = 0 := by rw [show Int.tdiv 0 2 = 0 from rfl]; unfold wrap64; omega
      have t1 : wrap64 (Int.tdiv 1 2) = 0 := by rw [show Int.tdiv 1 2 = 0 from rfl]; unfold wrap64; omega
      have t2 : wrap64 (Int.tdiv 2 2) = 1 := by rw [show Int.tdiv 2 2 = 1 from rfl]; unfold wrap64; omega
      have t3 : wrap64 (Int.tdiv 3 2) = 1 := by rw [show Int.tdiv 3 2 = 1 from rfl]; unfold wrap64; omega
      have X0 : ∀ z w : Int, -4294967296 ≤ z → z ≤ 4294967296 → wrap64 (z + wrap64 (0 * w)) = z := by
        intro z w h1 h2
        rw [Int.zero_mul, w_in (n := 0) (by omega) (by omega), Int.add_zero, w_in (by omega) (by omega)]
      have X1 : ∀ z w : Int, -4294967296 ≤ z → z ≤ 4294967296 → 0 ≤ w → w ≤ 4294967296 → wrap64 (z + wrap64 (1 * w)) = z + w := by
        intro z w h1 h2 h3 h4
        rw [Int.one_mul, w_in (n := w) (by omega) (by omega), w_in (by omega) (by omega)]
      rw [boxStep 4 _ _ _ _ _ _ _ _ _ _ _ _ _ _ 0 r.x r.y (m.a * r.x + m.b * r.y) (m.c * r.x + m.d * r.y) 1 (by rw [m0]; exact X0 _ _ x1 x2) (by rw [t0]; exact X0 _ _ y1 y2) (lin a1 a2 b1 b2 (by omega) (by omega) (by omega) (by omega)) (lin c1 c2 d1 d2 (by omega) (by omega) (by omega) (by omega)) (by omega) (by unfold wrap64; omega), if_pos rfl]
      rw [boxStep 3 _ _ _ _ _ _ _ _ _ _ _ _ _ _ 1 (r.x + r.w) r.y (m.a * (r.x + r.w) + m.b * r.y) (m.c * (r.x + r.w) + m.d * r.y) 2 (by rw [m1]; exact X1 _ _ x1 x2 u1 u2) (by rw [t1]; exact X0 _ _ y1 y2) (lin a1 a2 b1 b2 (by omega) (by omega) (by omega) (by omega)) (lin c1 c2 d1 d2 (by omega) (by omega) (by omega) (by omega)) (by omega) (by unfold wrap64; omega), if_neg (by decide)]
      rw [boxStep 2 _ _ _ _ _ _ _ _ _ _ _ _ _ _ 2 r.x (r.y + r.h) (m.a * r.x + m.b * (r.y + r.h)) (m.c * r.x + m.d * (r.y + r.h)) 3 (by rw [m2]; exact X0 _ _ x1 x2) (by rw [t2]; exact X1 _ _ y1 y2 v1 v2) (lin a1 a2 b1 b2 (by omega) (by omega) (by omega) (by omega)) (lin c1 c2 d1 d2 (by omega) (by omega) (by omega) (by omega)) (by omega) (by unfold wrap64; omega), if_neg (by decide)]
      rw [boxStep 1 _ _ _ _ _ _ _ _ _ _ _ _ _ _ 3 (r.x + r.w) (r.y + r.h) (m.a * (r.x + r.w) + m.b * (r.y + r.h)) (m.c * (r.x + r.w) + m.d * (r.y + r.h)) 4 (by rw [m3]; exact X1 _ _ x1 x2 u1 u2) (by rw [t3]; exact X1 _ _ y1 y2 v1 v2) (lin a1 a2 b1 b2 (by omega) (by omega) (by omega) (by omega)) (lin c1 c2 d1 d2 (by omega) (by omega) (by omega) (by omega)) (by omega) (by unfold wrap64; omega), if_neg (by decide)]
      have s0 := sum_bd a1 a2 b1 b2 (by omega : -8589934592 ≤ r.x) (by omega) (by omega : -8589934592 ≤ r.y) (by omega)
      have s1 := sum_bd a1 a2 b1 b2 (by omega : -8589934592 ≤ r.x + r.w) (by omega) (by omega : -8589934592 ≤ r.y) (by omega)
      have s2 := sum_bd a1 a2 b1 b2 (by omega : -8589934592 ≤ r.x) (by omega) (by omega : -8589934592 ≤ r.y + r.h) (by omega)
      have s3 := sum_bd a1 a2 b1 b2 (by omega : -8589934592 ≤ r.x + r.w) (by omega) (by omega : -8589934592 ≤ r.y + r.h) (by omega)
      have q0 := sum_bd c1 c2 d1 d2 (by omega : -8589934592 ≤ r.x) (by omega) (by omega : -8589934592 ≤ r.y) (by omega)
      have q1 := sum_bd c1 c2 d1 d2 (by omega : -8589934592 ≤ r.x + r.w) (by omega) (by omega : -8589934592 ≤ r.y) (by omega)
      have q2 := sum_bd c1 c2 d1 d2 (by omega : -8589934592 ≤ r.x) (by omega) (by omega : -8589934592 ≤ r.y + r.h) (by omega)
      have q3 := sum_bd c1 c2 d1 d2 (by omega : -8589934592 ≤ r.x + r.w) (by omega) (by omega : -8589934592 ≤ r.y + r.h) (by omega)
      simp only [mn_min, mx_max, Int.min_self, Int.max_self]
      rw [boxEnd 0 m r _ _ _ _ hm (by omega) (by omega) (by omega) (by omega) (boxR m r) rfl]
      simp only [boxF, hm, hr, and_self, if_true]
      split <;> simp [R4.zero]
end Maps
end Go.Proofs.Ytjekoaodgdodjaa
