/- The walk of rect.Box. -/
import Derived.Test.YtjekoaodgdodjaaJ
import Derived.Test.YtjekoaodgdodjaaDrawn
set_option linter.unusedVariables false
set_option linter.unusedSimpArgs false
namespace Go.Proofs.Ytjekoaodgdodjaa
open Go.RowKit
attribute [local go_sem] Act.eval

theorem turn_is (a b c d e f x y U V : Int) (w : World) (ha : fineB a b c d e f = true) (hU : a * x + b * y = U) (hV : c * x + d * y = V)
    (hx1 : -8589934592 ≤ x) (hx2 : x ≤ 8589934592) (hy1 : -8589934592 ≤ y) (hy2 : y ≤ 8589934592) :
    Calls Try.prog 48 #[.agg #[.int .i64 a, .int .i64 b, .int .i64 c, .int .i64 d, .int .i64 e, .int .i64 f], .int .i64 x, .int .i64 y] w fun r w' => r = .returned (.tuple #[.int .i64 U, .int .i64 V]) ∧ Below w.heap.size w w' := by
  obtain ⟨⟨p1, p2, p3, p4, p5, p6⟩, p7, p8, p9, p10, p11, p12⟩ := fine_bd ha
  have := turn_any a b c d e f x y w p1 p2 p3 p4 p5 p6 p7 p8 hx1 hx2 hy1 hy2
  rw [hU, hV] at this
  exact this
theorem sjoin_is (a b c d L H : Int) (w : World) (h : min a c = L) (h' : max b d = H) :
    Calls Try.prog 47 #[.agg #[.int .i64 a, .int .i64 b], .agg #[.int .i64 c, .int .i64 d]] w fun e w' => e = .returned (.agg #[.int .i64 L, .int .i64 H]) ∧ Below w.heap.size w w' := by
  have := sjoin_any a b c d w
  rw [h, h'] at this
  exact this
theorem of_is (a b c d X Y P Q : Int) (w : World) (hX : a = X) (hY : c = Y) (hP : b - a = P) (hQ : d - c = Q) (h1 : -9223372036854775808 ≤ b - a) (h2 : b - a ≤ 9223372036854775807) (h3 : -9223372036854775808 ≤ d - c) (h4 : d - c ≤ 9223372036854775807) :
    Calls Try.prog 44 #[.agg #[.int .i64 a, .int .i64 b], .agg #[.int .i64 c, .int .i64 d]] w fun e w' => e = .returned (.agg #[.int .i64 X, .int .i64 Y, .int .i64 P, .int .i64 Q]) ∧ Below w.heap.size w w' := by
  subst hX hY hP hQ
  exact of_any a b c d w h1 h2 h3 h4
theorem up_bd {n : Int} (h1 : -4611686018427387904 ≤ n) (h2 : n ≤ 4611686018427387904) : -70368744177664 ≤ upF n ∧ upF n ≤ 70368744177664 := by unfold upF; omega
theorem below_from {w W W2 : World} {g : Nat} (h : Below w.heap.size w W) (k : Below g W W2) (hg : w.heap.size ≤ g) : Below w.heap.size w W2 := h.trans (k.mono hg)

set_option maxRecDepth 100000 in
set_option maxHeartbeats 4000000 in
theorem box_walk (a b c d e f x y u v U0 U1 U2 U3 V0 V1 V2 V3 X Y P Q je : Int) (x' y' u' v' : Int) (w : World) (m : fineB a b c d e f = true) (r : rightB x y u v = true)
    (e0 : a * x + b * y = U0) (e0' : c * x + d * y = V0) (e1 : a * (x + u) + b * y = U1) (e1' : c * (x + u) + d * y = V1) (e2 : a * x + b * (y + v) = U2) (e2' : c * x + d * (y + v) = V2) (e3 : a * (x + u) + b * (y + v) = U3) (e3' : c * (x + u) + d * (y + v) = V3)
    (bU0 : -4611686018427387904 ≤ U0 ∧ U0 ≤ 4611686018427387904) (bU1 : -4611686018427387904 ≤ U1 ∧ U1 ≤ 4611686018427387904) (bU2 : -4611686018427387904 ≤ U2 ∧ U2 ≤ 4611686018427387904) (bU3 : -4611686018427387904 ≤ U3 ∧ U3 ≤ 4611686018427387904)
    (bV0 : -4611686018427387904 ≤ V0 ∧ V0 ≤ 4611686018427387904) (bV1 : -4611686018427387904 ≤ V1 ∧ V1 ≤ 4611686018427387904) (bV2 : -4611686018427387904 ≤ V2 ∧ V2 ≤ 4611686018427387904) (bV3 : -4611686018427387904 ≤ V3 ∧ V3 ≤ 4611686018427387904)
    (q1 : min (min (min U0 U1) U2) U3 / 65536 + e = X) (q2 : upF (max (max (max U0 U1) U2) U3) + e - X = P) (q3 : min (min (min V0 V1) V2) V3 / 65536 + f = Y) (q4 : upF (max (max (max V0 V1) V2) V3) + f - Y = Q)
    (hfit : ∀ W : World, Calls Try.prog 46 #[.agg #[.int .i64 X, .int .i64 Y, .int .i64 P, .int .i64 Q]] W fun r w' => r = .returned (.tuple #[.agg #[.int .i64 x', .int .i64 y', .int .i64 u', .int .i64 v'], .int .i64 je]) ∧ Below W.heap.size W w') :
    Calls Try.prog 15 #[.agg #[.int .i64 a, .int .i64 b, .int .i64 c, .int .i64 d, .int .i64 e, .int .i64 f], .agg #[.int .i64 x, .int .i64 y, .int .i64 u, .int .i64 v]] w fun r w' =>
      r = .returned (.tuple #[.agg #[.int .i64 x', .int .i64 y', .int .i64 u', .int .i64 v'], .int .i64 je]) ∧ Below w.heap.size w w' := by
  obtain ⟨a1, a2, a3, a4, a5, a6, a7, a8⟩ := right_bd r
  obtain ⟨⟨p1, p2, p3, p4, p5, p6⟩, p7, p8, p9, p10, p11, p12⟩ := fine_bd m
  have H0 := Lib.hid e0
  have H0' := Lib.hid e0'
  have H1 := Lib.hid e1
  have H1' := Lib.hid e1'
  have H2 := Lib.hid e2
  have H2' := Lib.hid e2'
  have H3 := Lib.hid e3
  have H3' := Lib.hid e3'
  have HQ1 := Lib.hid q1
  have HQ2 := Lib.hid q2
  have HQ3 := Lib.hid q3
  have HQ4 := Lib.hid q4
  clear e0 e0' e1 e1' e2 e2' e3 e3' q1 q2 q3 q4
  have i0 : ∀ W : World, (Instr.index 82 (.agg #[.int .i64 u, .int .i64 0, .int .i64 0, .int .i64 v, .int .i64 u, .int .i64 v]) (.int .i64 0)).run Try.prog W = .ok (.agg #[.int .i64 u, .int .i64 0]) W := fun _ => by kernel_rfl
  have i1 : ∀ W : World, (Instr.index 82 (.agg #[.int .i64 u, .int .i64 0, .int .i64 0, .int .i64 v, .int .i64 u, .int .i64 v]) (.int .i64 1)).run Try.prog W = .ok (.agg #[.int .i64 0, .int .i64 v]) W := fun _ => by kernel_rfl
  have i2 : ∀ W : World, (Instr.index 82 (.agg #[.int .i64 u, .int .i64 0, .int .i64 0, .int .i64 v, .int .i64 u, .int .i64 v]) (.int .i64 2)).run Try.prog W = .ok (.agg #[.int .i64 u, .int .i64 v]) W := fun _ => by kernel_rfl
  go_enter Try.func15, Try.ntmps15
  go_wp2_with (first | (go_at_call 18; refine (fine_any _ _ _ _ _ _ _).mono ?_; rintro e wa ⟨rfl, hb⟩; (try replace hb := undrew hb); have hB_wa := hb; obtain ⟨hc, hf⟩ := ch hb; have hz := hb.size; (try simp only [World.size_alloc, World.size_setCell, World.size_drew] at hz); have zw0 : w.heap.size < wa.heap.size := (by omega); have zw1 : w.heap.size + 1 < wa.heap.size := (by omega); have zw2 : w.heap.size + 1 + 1 < wa.heap.size := (by omega)) | (go_at_call 8; refine (right_any _ _ _ _ _).mono ?_; rintro e wb ⟨rfl, hb⟩; (try replace hb := undrew hb); have hB_wb := hb; obtain ⟨hc, hf⟩ := ch hb; have hz := hb.size; (try simp only [World.size_alloc, World.size_setCell, World.size_drew] at hz); have zw0 : w.heap.size < wb.heap.size := (by omega); have zw1 : w.heap.size + 1 < wb.heap.size := (by omega); have zw2 : w.heap.size + 1 + 1 < wb.heap.size := (by omega)) | (go_at_call 48; refine (turn_is _ _ _ _ _ _ _ _ U0 V0 _ m H0.out H0'.out (by omega) (by omega) (by omega) (by omega)).mono ?_; rintro e wt ⟨rfl, hb⟩; (try replace hb := undrew hb); have hB_wt := hb; obtain ⟨hc, hf⟩ := ch hb; have hz := hb.size; (try simp only [World.size_alloc, World.size_setCell, World.size_drew] at hz); have zw0 : w.heap.size < wt.heap.size := (by omega); have zw1 : w.heap.size + 1 < wt.heap.size := (by omega); have zw2 : w.heap.size + 1 + 1 < wt.heap.size := (by omega)))
  obtain ⟨g8, hg8⟩ : ∃ g, g = wt.heap.size := ⟨_, rfl⟩
  obtain ⟨g9, hg9⟩ : ∃ g, g = wt.heap.size + 1 := ⟨_, rfl⟩
  obtain ⟨gR, hgR⟩ : ∃ g, g = w.heap.size + 1 + 1 := ⟨_, rfl⟩
  obtain ⟨W0, hW0⟩ : ∃ W0, W0 = (wt.alloc (.cells #[.int .i64 U0, .int .i64 U0] 73)).alloc (.cells #[.int .i64 V0, .int .i64 V0] 73) := ⟨_, rfl⟩
  rw [← hW0, ← hg9, ← hg8, ← hgR]
  have hh_g8 : W0.heap[g8]? = some (.cells #[.int .i64 U0, .int .i64 U0] 73 (0, 0)) := by rw [hW0, hg8, Below.heap_alloc _ _ _ (by simp)]; exact heap_alloc_new _ _
  have hh_g9 : W0.heap[g9]? = some (.cells #[.int .i64 V0, .int .i64 V0] 73 (0, 0)) := by rw [hW0, hg9]; exact (by simpa using heap_alloc_new (wt.alloc (.cells #[.int .i64 U0, .int .i64 U0] 73)) (.cells #[.int .i64 V0, .int .i64 V0] 73))
  have HBW : Below g8 wt W0 := by rw [hW0, hg8]; exact ((Below.refl _ _).alloc (Nat.le_refl _) _).alloc (by simp) _
  have hRh : wt.heap[w.heap.size + 1 + 1]? = some (.cells #[.int .i64 0, .int .i64 0, .int .i64 0, .int .i64 0] 24 (0, 0)) :=
    (hB_wt.block _ (by omega)).trans ((hB_wb.block _ (by omega)).trans ((hB_wa.block _ (by simp)).trans (by simpa using heap_alloc_new ((w.alloc (.cells #[.int .i64 a, .int .i64 b, .int .i64 c, .int .i64 d, .int .i64 e, .int .i64 f] 37)).alloc (.cells #[.int .i64 x, .int .i64 y, .int .i64 u, .int .i64 v] 24)) (.cells #[.int .i64 0, .int .i64 0, .int .i64 0, .int .i64 0] 24))))
  have HRH := Lib.hid hRh
  have HBT : Below w.heap.size w wt := by (repeat (first | with_reducible exact Below.refl _ _ | with_reducible apply below_alloc | with_reducible apply below_drew1 | with_reducible assumption | (with_reducible refine Keep.below (by assumption)) | (with_reducible refine bel ?_ (by assumption)) | ((with_reducible refine below_set ?_ ?_); rotate_left; (focus (first | assumption | omega | (simp; done) | (simp; omega))))))
  clear hRh hB_wt hB_wb hB_wa
  have hz0 : w.heap.size < g8 := by omega
  have hz1 : w.heap.size + 1 < g8 := by omega
  have hzR : gR < g8 := by omega
  have hz9 : g9 = g8 + 1 := by omega
  have hlt89 : g8 < g9 := by omega
  have HZ9 := Lib.hid hz9
  have HGR := Lib.hid hgR
  have HG8 := Lib.hid hg8
  clear hz9 hgR hW0 hg9 hg8
  refine wp_loop_rounds 4 ?_
  have lz8 : g8 < W0.heap.size := heap_lt hh_g8
  have lz9 : g9 < W0.heap.size := heap_lt hh_g9
  have lz0 : w.heap.size < W0.heap.size := by omega
  have lz1 : w.heap.size + 1 < W0.heap.size := by omega
  have hcw : ∀ b o, b < g8 → W0.cell? ⟨b, o, none⟩ = wt.cell? ⟨b, o, none⟩ := fun b o h => HBW.cell (p := ⟨b, o, none⟩) h
  rw [rounds_succ]
  go_wp2_with (go_at_call 48; refine (turn_is _ _ _ _ _ _ _ _ U1 V1 _ m H1.out H1'.out (by omega) (by omega) (by omega) (by omega)).mono ?_; rintro e wk1 ⟨rfl, hb⟩; (try replace hb := undrew hb); have hB_wk1 := hb; obtain ⟨hc, hf⟩ := ch hb; have hz := hb.size; (try simp only [World.size_alloc, World.size_setCell, World.size_drew] at hz); have zw0 : w.heap.size < wk1.heap.size := (by omega); have zw1 : w.heap.size + 1 < wk1.heap.size := (by omega); have zg8 : g8 < wk1.heap.size := (by omega); have zg9 : g9 < wk1.heap.size := (by omega); have zgR : gR < wk1.heap.size := (by omega))
  replace hh_g8 : wk1.heap[g8]? = some (.cells #[.int .i64 U0, .int .i64 U0] 73 (0, 0)) := (hb.block g8 (by simp only [World.size_alloc]; omega)).trans ((Below.heap_alloc _ _ _ (by omega)).trans hh_g8)
  replace hh_g9 : wk1.heap[g9]? = some (.cells #[.int .i64 V0, .int .i64 V0] 73 (0, 0)) := (hb.block g9 (by simp only [World.size_alloc]; omega)).trans ((Below.heap_alloc _ _ _ (by omega)).trans hh_g9)
  replace HBW : Below g8 wt wk1 := (HBW.alloc (by omega) _).trans (hb.mono (by simp only [World.size_alloc]; omega))
  clear hcw hc hf hb
  have c8_0 := cell_of_heap hh_g8 (j := 0) rfl
  have c8_1 := cell_of_heap hh_g8 (j := 1) rfl
  have c9_0 := cell_of_heap hh_g9 (j := 0) rfl
  have c9_1 := cell_of_heap hh_g9 (j := 1) rfl
  have f8_0 := frozen_of_heap (j := 0) hh_g8
  have f8_1 := frozen_of_heap (j := 1) hh_g8
  have f9_0 := frozen_of_heap (j := 0) hh_g9
  have f9_1 := frozen_of_heap (j := 1) hh_g9
  have hn89 : ¬ g8 = g9 := by have := HZ9.out; omega
  have hn98 : ¬ g9 = g8 := by have := HZ9.out; omega
  obtain ⟨L1, hLa⟩ : ∃ L, min U0 U1 = L := ⟨_, rfl⟩
  obtain ⟨M1, hLb⟩ : ∃ L, max U0 U1 = L := ⟨_, rfl⟩
  obtain ⟨N1, hLc⟩ : ∃ L, min V0 V1 = L := ⟨_, rfl⟩
  obtain ⟨O1, hLd⟩ : ∃ L, max V0 V1 = L := ⟨_, rfl⟩
  have HA1 := Lib.hid hLa
  have HB1 := Lib.hid hLb
  have HC1 := Lib.hid hLc
  have HD1 := Lib.hid hLd
  clear hLa hLb hLc hLd
  refine drawn_data (w := wk1) ([.inl (.agg #[.int .i64 U0, .int .i64 U0]), .inl (.int .i64 U1), .inl (.int .i64 U1), .inl (.agg #[.int .i64 U1, .int .i64 U1]), .inl (.agg #[.int .i64 L1, .int .i64 M1]), .inl (.agg #[.int .i64 V0, .int .i64 V0]), .inl (.int .i64 V1), .inl (.int .i64 V1), .inl (.agg #[.int .i64 V1, .int .i64 V1]), .inl (.agg #[.int .i64 N1, .int .i64 O1])] : List Leaves) (by kernel_rfl) (by kernel_rfl) (by kernel_rfl) ?_ ?_
  · intro i hi
    rcases (show i = 0 ∨ i = 1 ∨ i = 2 ∨ i = 3 ∨ i = 4 ∨ i = 5 ∨ i = 6 ∨ i = 7 ∨ i = 8 ∨ i = 9 by simp at hi; omega) with rfl | rfl | rfl | rfl | rfl | rfl | rfl | rfl | rfl | rfl
    · intro a W hs ho hB
      have e8 : a.tmps[8]? = some (.pointer (some ⟨g8, 0, none⟩)) := (ho 8 (by kernel_rfl)).trans rfl
      refine ⟨_, rfl, fun KR hKR => ?_⟩
      obtain ⟨hc, hf⟩ := ch' hB
      clear hs ho
      go_simp
      exact hKR _ _ rfl (Below.refl _ _) (fun h => by cases h)
    · intro a W hs ho hB
      have e12 : a.tmps[12]? = some (.int .i64 U1) := (ho 12 (by kernel_rfl)).trans rfl
      refine ⟨_, rfl, fun KR hKR => ?_⟩
      obtain ⟨hc, hf⟩ := ch' hB
      clear hs ho
      go_simp
      exact hKR _ _ rfl (Below.refl _ _) (fun h => by cases h)
    · intro a W hs ho hB
      have e12 : a.tmps[12]? = some (.int .i64 U1) := (ho 12 (by kernel_rfl)).trans rfl
      refine ⟨_, rfl, fun KR hKR => ?_⟩
      obtain ⟨hc, hf⟩ := ch' hB
      clear hs ho
      go_simp
      exact hKR _ _ rfl (Below.refl _ _) (fun h => by cases h)
    · intro a W hs ho hB
      have e69 : a.tmps[69]? = some (.int .i64 U1) := hs 1 (by kernel_rfl) _ rfl 69 rfl
      have e70 : a.tmps[70]? = some (.int .i64 U1) := hs 2 (by kernel_rfl) _ rfl 70 rfl
      refine ⟨_, rfl, fun KR hKR => ?_⟩
      obtain ⟨hc, hf⟩ := ch' hB
      clear hs ho
      go_simp
      exact hKR _ _ rfl (Below.refl _ _) (fun h => by cases h)
    · intro a W hs ho hB
      have e68 : a.tmps[68]? = some (.agg #[.int .i64 U0, .int .i64 U0]) := hs 0 (by kernel_rfl) _ rfl 68 rfl
      have e71 : a.tmps[71]? = some (.agg #[.int .i64 U1, .int .i64 U1]) := hs 3 (by kernel_rfl) _ rfl 71 rfl
      refine ⟨_, rfl, fun KR hKR => ?_⟩
      obtain ⟨hc, hf⟩ := ch' hB
      clear hs ho
      go_simp
      (go_at_call 47; refine (sjoin_is _ _ _ _ _ _ _ HA1.out HB1.out).mono ?_; rintro e w1 ⟨rfl, hb⟩)
      exact hKR _ _ rfl hb (fun h => by cases h)
    · intro a W hs ho hB
      have e9 : a.tmps[9]? = some (.pointer (some ⟨g9, 0, none⟩)) := (ho 9 (by kernel_rfl)).trans rfl
      refine ⟨_, rfl, fun KR hKR => ?_⟩
      obtain ⟨hc, hf⟩ := ch' hB
      clear hs ho
      go_simp
      exact hKR _ _ rfl (Below.refl _ _) (fun h => by cases h)
    · intro a W hs ho hB
      have e13 : a.tmps[13]? = some (.int .i64 V1) := (ho 13 (by kernel_rfl)).trans rfl
      refine ⟨_, rfl, fun KR hKR => ?_⟩
      obtain ⟨hc, hf⟩ := ch' hB
      clear hs ho
      go_simp
      exact hKR _ _ rfl (Below.refl _ _) (fun h => by cases h)
    · intro a W hs ho hB
      have e13 : a.tmps[13]? = some (.int .i64 V1) := (ho 13 (by kernel_rfl)).trans rfl
      refine ⟨_, rfl, fun KR hKR => ?_⟩
      obtain ⟨hc, hf⟩ := ch' hB
      clear hs ho
      go_simp
      exact hKR _ _ rfl (Below.refl _ _) (fun h => by cases h)
    · intro a W hs ho hB
      have e74 : a.tmps[74]? = some (.int .i64 V1) := hs 6 (by kernel_rfl) _ rfl 74 rfl
      have e75 : a.tmps[75]? = some (.int .i64 V1) := hs 7 (by kernel_rfl) _ rfl 75 rfl
      refine ⟨_, rfl, fun KR hKR => ?_⟩
      obtain ⟨hc, hf⟩ := ch' hB
      clear hs ho
      go_simp
      exact hKR _ _ rfl (Below.refl _ _) (fun h => by cases h)
    · intro a W hs ho hB
      have e73 : a.tmps[73]? = some (.agg #[.int .i64 V0, .int .i64 V0]) := hs 5 (by kernel_rfl) _ rfl 73 rfl
      have e76 : a.tmps[76]? = some (.agg #[.int .i64 V1, .int .i64 V1]) := hs 8 (by kernel_rfl) _ rfl 76 rfl
      refine ⟨_, rfl, fun KR hKR => ?_⟩
      obtain ⟨hc, hf⟩ := ch' hB
      clear hs ho
      go_simp
      (go_at_call 47; refine (sjoin_is _ _ _ _ _ _ _ HC1.out HD1.out).mono ?_; rintro e w1 ⟨rfl, hb⟩)
      exact hKR _ _ rfl hb (fun h => by cases h)
  · intro vals W hv hne hB
    have v0 : vals 0 = .agg #[.int .i64 U0, .int .i64 U0] := hv 0 (Nat.le_of_ble_eq_true rfl)
    have v1 : vals 1 = .int .i64 U1 := hv 1 (Nat.le_of_ble_eq_true rfl)
    have v2 : vals 2 = .int .i64 U1 := hv 2 (Nat.le_of_ble_eq_true rfl)
    have v3 : vals 3 = .agg #[.int .i64 U1, .int .i64 U1] := hv 3 (Nat.le_of_ble_eq_true rfl)
    have v4 : vals 4 = .agg #[.int .i64 L1, .int .i64 M1] := hv 4 (Nat.le_of_ble_eq_true rfl)
    have v5 : vals 5 = .agg #[.int .i64 V0, .int .i64 V0] := hv 5 (Nat.le_of_ble_eq_true rfl)
    have v6 : vals 6 = .int .i64 V1 := hv 6 (Nat.le_of_ble_eq_true rfl)
    have v7 : vals 7 = .int .i64 V1 := hv 7 (Nat.le_of_ble_eq_true rfl)
    have v8 : vals 8 = .agg #[.int .i64 V1, .int .i64 V1] := hv 8 (Nat.le_of_ble_eq_true rfl)
    have v9 : vals 9 = .agg #[.int .i64 N1, .int .i64 O1] := hv 9 (Nat.le_of_ble_eq_true rfl)
    simp only [List.length_cons, List.length_nil, Nat.zero_add, Nat.reduceAdd, slots, if_true, dstOf, List.getElem?_toArray, List.getElem?_cons_zero, List.getElem?_cons_succ, Option.bind_some, Act.put, List.setIfInBounds_toArray, List.set_cons_zero, List.set_cons_succ, v0, v1, v2, v3, v4, v5, v6, v7, v8, v9]
    clear hv hne v0 v1 v2 v3 v4 v5 v6 v7 v8 v9
    obtain ⟨hO_c, hO_f⟩ := ch' hB
    change wpAny _ _ _ _ 2 _ _ _
    refine wpAny_ready (rs := [10]) (by kernel_rfl) (by simp) ?_
    refine AllReady.cons (o := { dst := none, op := Go.Op.store 73 (Go.Operand.tmp 8) (Go.Operand.tmp 72), type := 0, pos := "rect.go:191", after := #[{ on := 4, ground := Go.Ground.data }, { on := 9, ground := Go.Ground.chain }, { on := 0, ground := Go.Ground.phase }, { on := 1, ground := Go.Ground.phase }, { on := 2, ground := Go.Ground.phase }, { on := 3, ground := Go.Ground.phase }, { on := 4, ground := Go.Ground.phase }, { on := 5, ground := Go.Ground.textOnly Go.Departure.lateStores }, { on := 6, ground := Go.Ground.textOnly Go.Departure.lateStores }, { on := 7, ground := Go.Ground.textOnly Go.Departure.lateStores }, { on := 8, ground := Go.Ground.textOnly Go.Departure.lateStores }, { on := 9, ground := Go.Ground.textOnly Go.Departure.lateStoresUnsure }], guard := none }) rfl (fun KR hKR => ?_) AllReady.nil
    go_simp
    refine hKR _ _ ?_
    clear hKR KR
    (try simp only [Act.put, List.setIfInBounds_toArray, List.set_cons_zero, List.set_cons_succ])
    refine wpAny_ready (rs := [11]) (by kernel_rfl) (by simp) ?_
    refine AllReady.cons (o := { dst := none, op := Go.Op.store 73 (Go.Operand.tmp 9) (Go.Operand.tmp 77), type := 0, pos := "rect.go:191", after := #[{ on := 9, ground := Go.Ground.data }, { on := 10, ground := Go.Ground.chain }, { on := 0, ground := Go.Ground.phase }, { on := 1, ground := Go.Ground.phase }, { on := 2, ground := Go.Ground.phase }, { on := 3, ground := Go.Ground.phase }, { on := 4, ground := Go.Ground.phase }, { on := 5, ground := Go.Ground.phase }, { on := 6, ground := Go.Ground.phase }, { on := 7, ground := Go.Ground.phase }, { on := 8, ground := Go.Ground.phase }, { on := 9, ground := Go.Ground.phase }, { on := 10, ground := Go.Ground.phase }], guard := none }) rfl (fun KR hKR => ?_) AllReady.nil
    go_simp
    refine hKR _ _ ?_
    clear hKR KR
    (try simp only [Act.put, List.setIfInBounds_toArray, List.set_cons_zero, List.set_cons_succ])
    refine wpAny_done (by kernel_rfl) ?_ _
    clear hO_c hO_f
    generalize hW2 : World.setCell _ _ _ = W1
    have hB2 : Below g8 wk1 W1 := by rw [← hW2]; exact (((((hB.mono (show g8 ≤ wk1.heap.size by omega)).setCell (p := ⟨g8, 0, none⟩) (show g8 ≤ g8 by omega) _).setCell (p := ⟨g8, 1, none⟩) (show g8 ≤ g8 by omega) _).setCell (p := ⟨g9, 0, none⟩) (show g8 ≤ g9 by omega) _).setCell (p := ⟨g9, 1, none⟩) (show g8 ≤ g9 by omega) _)
    have hq_g8 : W1.heap[g8]? = some (.cells #[.int .i64 L1, .int .i64 M1] 73 (0, 0)) := by rw [← hW2]; exact (set_ne (show g8 ≠ g9 by omega) (set_ne (show g8 ≠ g9 by omega) (set_same (set_same ((hB.block g8 (heap_lt hh_g8)).trans hh_g8)))))
    have hq_g9 : W1.heap[g9]? = some (.cells #[.int .i64 N1, .int .i64 O1] 73 (0, 0)) := by rw [← hW2]; exact (set_same (set_same (set_ne (show g9 ≠ g8 by omega) (set_ne (show g9 ≠ g8 by omega) ((hB.block g9 (heap_lt hh_g9)).trans hh_g9)))))
    have hS2 : wk1.heap.size ≤ W1.heap.size := by rw [← hW2]; simp only [World.size_setCell]; exact hB.size
    clear hW2
    clear c8_0 c8_1 c9_0 c9_1 f8_0 f8_1 f9_0 f9_1
    replace hh_g8 := hq_g8
    replace hh_g9 := hq_g9
    replace HBW := HBW.trans hB2
    clear hq_g8 hq_g9 hB2
    go_wp2_with fail
    have lz8 : g8 < W1.heap.size := heap_lt hh_g8
    have lz9 : g9 < W1.heap.size := heap_lt hh_g9
    have lz0 : w.heap.size < W1.heap.size := by omega
    have lz1 : w.heap.size + 1 < W1.heap.size := by omega
    have hcw : ∀ b o, b < g8 → W1.cell? ⟨b, o, none⟩ = wt.cell? ⟨b, o, none⟩ := fun b o h => HBW.cell (p := ⟨b, o, none⟩) h
    rw [rounds_succ]
    go_wp2_with (go_at_call 48; refine (turn_is _ _ _ _ _ _ _ _ U2 V2 _ m H2.out H2'.out (by omega) (by omega) (by omega) (by omega)).mono ?_; rintro e wk2 ⟨rfl, hb⟩; (try replace hb := undrew hb); have hB_wk2 := hb; obtain ⟨hc, hf⟩ := ch hb; have hz := hb.size; (try simp only [World.size_alloc, World.size_setCell, World.size_drew] at hz); have zw0 : w.heap.size < wk2.heap.size := (by omega); have zw1 : w.heap.size + 1 < wk2.heap.size := (by omega); have zg8 : g8 < wk2.heap.size := (by omega); have zg9 : g9 < wk2.heap.size := (by omega); have zgR : gR < wk2.heap.size := (by omega))
    replace hh_g8 : wk2.heap[g8]? = some (.cells #[.int .i64 L1, .int .i64 M1] 73 (0, 0)) := (hb.block g8 (by simp only [World.size_alloc]; omega)).trans ((Below.heap_alloc _ _ _ (by omega)).trans hh_g8)
    replace hh_g9 : wk2.heap[g9]? = some (.cells #[.int .i64 N1, .int .i64 O1] 73 (0, 0)) := (hb.block g9 (by simp only [World.size_alloc]; omega)).trans ((Below.heap_alloc _ _ _ (by omega)).trans hh_g9)
    replace HBW : Below g8 wt wk2 := (HBW.alloc (by omega) _).trans (hb.mono (by simp only [World.size_alloc]; omega))
    clear hcw hc hf hb
    have c8_0 := cell_of_heap hh_g8 (j := 0) rfl
    have c8_1 := cell_of_heap hh_g8 (j := 1) rfl
    have c9_0 := cell_of_heap hh_g9 (j := 0) rfl
    have c9_1 := cell_of_heap hh_g9 (j := 1) rfl
    have f8_0 := frozen_of_heap (j := 0) hh_g8
    have f8_1 := frozen_of_heap (j := 1) hh_g8
    have f9_0 := frozen_of_heap (j := 0) hh_g9
    have f9_1 := frozen_of_heap (j := 1) hh_g9
    have hn89 : ¬ g8 = g9 := by have := HZ9.out; omega
    have hn98 : ¬ g9 = g8 := by have := HZ9.out; omega
    obtain ⟨L2, hLa⟩ : ∃ L, min L1 U2 = L := ⟨_, rfl⟩
    obtain ⟨M2, hLb⟩ : ∃ L, max M1 U2 = L := ⟨_, rfl⟩
    obtain ⟨N2, hLc⟩ : ∃ L, min N1 V2 = L := ⟨_, rfl⟩
    obtain ⟨O2, hLd⟩ : ∃ L, max O1 V2 = L := ⟨_, rfl⟩
    have HA2 := Lib.hid hLa
    have HB2 := Lib.hid hLb
    have HC2 := Lib.hid hLc
    have HD2 := Lib.hid hLd
    clear hLa hLb hLc hLd
    refine drawn_data (w := wk2) ([.inl (.agg #[.int .i64 L1, .int .i64 M1]), .inl (.int .i64 U2), .inl (.int .i64 U2), .inl (.agg #[.int .i64 U2, .int .i64 U2]), .inl (.agg #[.int .i64 L2, .int .i64 M2]), .inl (.agg #[.int .i64 N1, .int .i64 O1]), .inl (.int .i64 V2), .inl (.int .i64 V2), .inl (.agg #[.int .i64 V2, .int .i64 V2]), .inl (.agg #[.int .i64 N2, .int .i64 O2])] : List Leaves) (by kernel_rfl) (by kernel_rfl) (by kernel_rfl) ?_ ?_
    · intro i hi
      rcases (show i = 0 ∨ i = 1 ∨ i = 2 ∨ i = 3 ∨ i = 4 ∨ i = 5 ∨ i = 6 ∨ i = 7 ∨ i = 8 ∨ i = 9 by simp at hi; omega) with rfl | rfl | rfl | rfl | rfl | rfl | rfl | rfl | rfl | rfl
      · intro a W hs ho hB
        have e8 : a.tmps[8]? = some (.pointer (some ⟨g8, 0, none⟩)) := (ho 8 (by kernel_rfl)).trans rfl
        refine ⟨_, rfl, fun KR hKR => ?_⟩
        obtain ⟨hc, hf⟩ := ch' hB
        clear hs ho
        go_simp
        exact hKR _ _ rfl (Below.refl _ _) (fun h => by cases h)
      · intro a W hs ho hB
        have e12 : a.tmps[12]? = some (.int .i64 U2) := (ho 12 (by kernel_rfl)).trans rfl
        refine ⟨_, rfl, fun KR hKR => ?_⟩
        obtain ⟨hc, hf⟩ := ch' hB
        clear hs ho
        go_simp
        exact hKR _ _ rfl (Below.refl _ _) (fun h => by cases h)
      · intro a W hs ho hB
        have e12 : a.tmps[12]? = some (.int .i64 U2) := (ho 12 (by kernel_rfl)).trans rfl
        refine ⟨_, rfl, fun KR hKR => ?_⟩
        obtain ⟨hc, hf⟩ := ch' hB
        clear hs ho
        go_simp
        exact hKR _ _ rfl (Below.refl _ _) (fun h => by cases h)
      · intro a W hs ho hB
        have e69 : a.tmps[69]? = some (.int .i64 U2) := hs 1 (by kernel_rfl) _ rfl 69 rfl
        have e70 : a.tmps[70]? = some (.int .i64 U2) := hs 2 (by kernel_rfl) _ rfl 70 rfl
        refine ⟨_, rfl, fun KR hKR => ?_⟩
        obtain ⟨hc, hf⟩ := ch' hB
        clear hs ho
        go_simp
        exact hKR _ _ rfl (Below.refl _ _) (fun h => by cases h)
      · intro a W hs ho hB
        have e68 : a.tmps[68]? = some (.agg #[.int .i64 L1, .int .i64 M1]) := hs 0 (by kernel_rfl) _ rfl 68 rfl
        have e71 : a.tmps[71]? = some (.agg #[.int .i64 U2, .int .i64 U2]) := hs 3 (by kernel_rfl) _ rfl 71 rfl
        refine ⟨_, rfl, fun KR hKR => ?_⟩
        obtain ⟨hc, hf⟩ := ch' hB
        clear hs ho
        go_simp
        (go_at_call 47; refine (sjoin_is _ _ _ _ _ _ _ HA2.out HB2.out).mono ?_; rintro e w1 ⟨rfl, hb⟩)
        exact hKR _ _ rfl hb (fun h => by cases h)
      · intro a W hs ho hB
        have e9 : a.tmps[9]? = some (.pointer (some ⟨g9, 0, none⟩)) := (ho 9 (by kernel_rfl)).trans rfl
        refine ⟨_, rfl, fun KR hKR => ?_⟩
        obtain ⟨hc, hf⟩ := ch' hB
        clear hs ho
        go_simp
        exact hKR _ _ rfl (Below.refl _ _) (fun h => by cases h)
      · intro a W hs ho hB
        have e13 : a.tmps[13]? = some (.int .i64 V2) := (ho 13 (by kernel_rfl)).trans rfl
        refine ⟨_, rfl, fun KR hKR => ?_⟩
        obtain ⟨hc, hf⟩ := ch' hB
        clear hs ho
        go_simp
        exact hKR _ _ rfl (Below.refl _ _) (fun h => by cases h)
      · intro a W hs ho hB
        have e13 : a.tmps[13]? = some (.int .i64 V2) := (ho 13 (by kernel_rfl)).trans rfl
        refine ⟨_, rfl, fun KR hKR => ?_⟩
        obtain ⟨hc, hf⟩ := ch' hB
        clear hs ho
        go_simp
        exact hKR _ _ rfl (Below.refl _ _) (fun h => by cases h)
      · intro a W hs ho hB
        have e74 : a.tmps[74]? = some (.int .i64 V2) := hs 6 (by kernel_rfl) _ rfl 74 rfl
        have e75 : a.tmps[75]? = some (.int .i64 V2) := hs 7 (by kernel_rfl) _ rfl 75 rfl
        refine ⟨_, rfl, fun KR hKR => ?_⟩
        obtain ⟨hc, hf⟩ := ch' hB
        clear hs ho
        go_simp
        exact hKR _ _ rfl (Below.refl _ _) (fun h => by cases h)
      · intro a W hs ho hB
        have e73 : a.tmps[73]? = some (.agg #[.int .i64 N1, .int .i64 O1]) := hs 5 (by kernel_rfl) _ rfl 73 rfl
        have e76 : a.tmps[76]? = some (.agg #[.int .i64 V2, .int .i64 V2]) := hs 8 (by kernel_rfl) _ rfl 76 rfl
        refine ⟨_, rfl, fun KR hKR => ?_⟩
        obtain ⟨hc, hf⟩ := ch' hB
        clear hs ho
        go_simp
        (go_at_call 47; refine (sjoin_is _ _ _ _ _ _ _ HC2.out HD2.out).mono ?_; rintro e w1 ⟨rfl, hb⟩)
        exact hKR _ _ rfl hb (fun h => by cases h)
    · intro vals W hv hne hB
      have v0 : vals 0 = .agg #[.int .i64 L1, .int .i64 M1] := hv 0 (Nat.le_of_ble_eq_true rfl)
      have v1 : vals 1 = .int .i64 U2 := hv 1 (Nat.le_of_ble_eq_true rfl)
      have v2 : vals 2 = .int .i64 U2 := hv 2 (Nat.le_of_ble_eq_true rfl)
      have v3 : vals 3 = .agg #[.int .i64 U2, .int .i64 U2] := hv 3 (Nat.le_of_ble_eq_true rfl)
      have v4 : vals 4 = .agg #[.int .i64 L2, .int .i64 M2] := hv 4 (Nat.le_of_ble_eq_true rfl)
      have v5 : vals 5 = .agg #[.int .i64 N1, .int .i64 O1] := hv 5 (Nat.le_of_ble_eq_true rfl)
      have v6 : vals 6 = .int .i64 V2 := hv 6 (Nat.le_of_ble_eq_true rfl)
      have v7 : vals 7 = .int .i64 V2 := hv 7 (Nat.le_of_ble_eq_true rfl)
      have v8 : vals 8 = .agg #[.int .i64 V2, .int .i64 V2] := hv 8 (Nat.le_of_ble_eq_true rfl)
      have v9 : vals 9 = .agg #[.int .i64 N2, .int .i64 O2] := hv 9 (Nat.le_of_ble_eq_true rfl)
      simp only [List.length_cons, List.length_nil, Nat.zero_add, Nat.reduceAdd, slots, if_true, dstOf, List.getElem?_toArray, List.getElem?_cons_zero, List.getElem?_cons_succ, Option.bind_some, Act.put, List.setIfInBounds_toArray, List.set_cons_zero, List.set_cons_succ, v0, v1, v2, v3, v4, v5, v6, v7, v8, v9]
      clear hv hne v0 v1 v2 v3 v4 v5 v6 v7 v8 v9
      obtain ⟨hO_c, hO_f⟩ := ch' hB
      change wpAny _ _ _ _ 2 _ _ _
      refine wpAny_ready (rs := [10]) (by kernel_rfl) (by simp) ?_
      refine AllReady.cons (o := { dst := none, op := Go.Op.store 73 (Go.Operand.tmp 8) (Go.Operand.tmp 72), type := 0, pos := "rect.go:191", after := #[{ on := 4, ground := Go.Ground.data }, { on := 9, ground := Go.Ground.chain }, { on := 0, ground := Go.Ground.phase }, { on := 1, ground := Go.Ground.phase }, { on := 2, ground := Go.Ground.phase }, { on := 3, ground := Go.Ground.phase }, { on := 4, ground := Go.Ground.phase }, { on := 5, ground := Go.Ground.textOnly Go.Departure.lateStores }, { on := 6, ground := Go.Ground.textOnly Go.Departure.lateStores }, { on := 7, ground := Go.Ground.textOnly Go.Departure.lateStores }, { on := 8, ground := Go.Ground.textOnly Go.Departure.lateStores }, { on := 9, ground := Go.Ground.textOnly Go.Departure.lateStoresUnsure }], guard := none }) rfl (fun KR hKR => ?_) AllReady.nil
      go_simp
      refine hKR _ _ ?_
      clear hKR KR
      (try simp only [Act.put, List.setIfInBounds_toArray, List.set_cons_zero, List.set_cons_succ])
      refine wpAny_ready (rs := [11]) (by kernel_rfl) (by simp) ?_
      refine AllReady.cons (o := { dst := none, op := Go.Op.store 73 (Go.Operand.tmp 9) (Go.Operand.tmp 77), type := 0, pos := "rect.go:191", after := #[{ on := 9, ground := Go.Ground.data }, { on := 10, ground := Go.Ground.chain }, { on := 0, ground := Go.Ground.phase }, { on := 1, ground := Go.Ground.phase }, { on := 2, ground := Go.Ground.phase }, { on := 3, ground := Go.Ground.phase }, { on := 4, ground := Go.Ground.phase }, { on := 5, ground := Go.Ground.phase }, { on := 6, ground := Go.Ground.phase }, { on := 7, ground := Go.Ground.phase }, { on := 8, ground := Go.Ground.phase }, { on := 9, ground := Go.Ground.phase }, { on := 10, ground := Go.Ground.phase }], guard := none }) rfl (fun KR hKR => ?_) AllReady.nil
      go_simp
      refine hKR _ _ ?_
      clear hKR KR
      (try simp only [Act.put, List.setIfInBounds_toArray, List.set_cons_zero, List.set_cons_succ])
      refine wpAny_done (by kernel_rfl) ?_ _
      clear hO_c hO_f
      generalize hW2 : World.setCell _ _ _ = W2
      have hB2 : Below g8 wk2 W2 := by rw [← hW2]; exact (((((hB.mono (show g8 ≤ wk2.heap.size by omega)).setCell (p := ⟨g8, 0, none⟩) (show g8 ≤ g8 by omega) _).setCell (p := ⟨g8, 1, none⟩) (show g8 ≤ g8 by omega) _).setCell (p := ⟨g9, 0, none⟩) (show g8 ≤ g9 by omega) _).setCell (p := ⟨g9, 1, none⟩) (show g8 ≤ g9 by omega) _)
      have hq_g8 : W2.heap[g8]? = some (.cells #[.int .i64 L2, .int .i64 M2] 73 (0, 0)) := by rw [← hW2]; exact (set_ne (show g8 ≠ g9 by omega) (set_ne (show g8 ≠ g9 by omega) (set_same (set_same ((hB.block g8 (heap_lt hh_g8)).trans hh_g8)))))
      have hq_g9 : W2.heap[g9]? = some (.cells #[.int .i64 N2, .int .i64 O2] 73 (0, 0)) := by rw [← hW2]; exact (set_same (set_same (set_ne (show g9 ≠ g8 by omega) (set_ne (show g9 ≠ g8 by omega) ((hB.block g9 (heap_lt hh_g9)).trans hh_g9)))))
      have hS2 : wk2.heap.size ≤ W2.heap.size := by rw [← hW2]; simp only [World.size_setCell]; exact hB.size
      clear hW2
      clear c8_0 c8_1 c9_0 c9_1 f8_0 f8_1 f9_0 f9_1
      replace hh_g8 := hq_g8
      replace hh_g9 := hq_g9
      replace HBW := HBW.trans hB2
      clear hq_g8 hq_g9 hB2
      go_wp2_with fail
      have lz8 : g8 < W2.heap.size := heap_lt hh_g8
      have lz9 : g9 < W2.heap.size := heap_lt hh_g9
      have lz0 : w.heap.size < W2.heap.size := by omega
      have lz1 : w.heap.size + 1 < W2.heap.size := by omega
      have hcw : ∀ b o, b < g8 → W2.cell? ⟨b, o, none⟩ = wt.cell? ⟨b, o, none⟩ := fun b o h => HBW.cell (p := ⟨b, o, none⟩) h
      rw [rounds_succ]
      go_wp2_with (go_at_call 48; refine (turn_is _ _ _ _ _ _ _ _ U3 V3 _ m H3.out H3'.out (by omega) (by omega) (by omega) (by omega)).mono ?_; rintro e wk3 ⟨rfl, hb⟩; (try replace hb := undrew hb); have hB_wk3 := hb; obtain ⟨hc, hf⟩ := ch hb; have hz := hb.size; (try simp only [World.size_alloc, World.size_setCell, World.size_drew] at hz); have zw0 : w.heap.size < wk3.heap.size := (by omega); have zw1 : w.heap.size + 1 < wk3.heap.size := (by omega); have zg8 : g8 < wk3.heap.size := (by omega); have zg9 : g9 < wk3.heap.size := (by omega); have zgR : gR < wk3.heap.size := (by omega))
      replace hh_g8 : wk3.heap[g8]? = some (.cells #[.int .i64 L2, .int .i64 M2] 73 (0, 0)) := (hb.block g8 (by simp only [World.size_alloc]; omega)).trans ((Below.heap_alloc _ _ _ (by omega)).trans hh_g8)
      replace hh_g9 : wk3.heap[g9]? = some (.cells #[.int .i64 N2, .int .i64 O2] 73 (0, 0)) := (hb.block g9 (by simp only [World.size_alloc]; omega)).trans ((Below.heap_alloc _ _ _ (by omega)).trans hh_g9)
      replace HBW : Below g8 wt wk3 := (HBW.alloc (by omega) _).trans (hb.mono (by simp only [World.size_alloc]; omega))
      clear hcw hc hf hb
      have c8_0 := cell_of_heap hh_g8 (j := 0) rfl
      have c8_1 := cell_of_heap hh_g8 (j := 1) rfl
      have c9_0 := cell_of_heap hh_g9 (j := 0) rfl
      have c9_1 := cell_of_heap hh_g9 (j := 1) rfl
      have f8_0 := frozen_of_heap (j := 0) hh_g8
      have f8_1 := frozen_of_heap (j := 1) hh_g8
      have f9_0 := frozen_of_heap (j := 0) hh_g9
      have f9_1 := frozen_of_heap (j := 1) hh_g9
      have hn89 : ¬ g8 = g9 := by have := HZ9.out; omega
      have hn98 : ¬ g9 = g8 := by have := HZ9.out; omega
      obtain ⟨L3, hLa⟩ : ∃ L, min L2 U3 = L := ⟨_, rfl⟩
      obtain ⟨M3, hLb⟩ : ∃ L, max M2 U3 = L := ⟨_, rfl⟩
      obtain ⟨N3, hLc⟩ : ∃ L, min N2 V3 = L := ⟨_, rfl⟩
      obtain ⟨O3, hLd⟩ : ∃ L, max O2 V3 = L := ⟨_, rfl⟩
      have HA3 := Lib.hid hLa
      have HB3 := Lib.hid hLb
      have HC3 := Lib.hid hLc
      have HD3 := Lib.hid hLd
      clear hLa hLb hLc hLd
      refine drawn_data (w := wk3) ([.inl (.agg #[.int .i64 L2, .int .i64 M2]), .inl (.int .i64 U3), .inl (.int .i64 U3), .inl (.agg #[.int .i64 U3, .int .i64 U3]), .inl (.agg #[.int .i64 L3, .int .i64 M3]), .inl (.agg #[.int .i64 N2, .int .i64 O2]), .inl (.int .i64 V3), .inl (.int .i64 V3), .inl (.agg #[.int .i64 V3, .int .i64 V3]), .inl (.agg #[.int .i64 N3, .int .i64 O3])] : List Leaves) (by kernel_rfl) (by kernel_rfl) (by kernel_rfl) ?_ ?_
      · intro i hi
        rcases (show i = 0 ∨ i = 1 ∨ i = 2 ∨ i = 3 ∨ i = 4 ∨ i = 5 ∨ i = 6 ∨ i = 7 ∨ i = 8 ∨ i = 9 by simp at hi; omega) with rfl | rfl | rfl | rfl | rfl | rfl | rfl | rfl | rfl | rfl
        · intro a W hs ho hB
          have e8 : a.tmps[8]? = some (.pointer (some ⟨g8, 0, none⟩)) := (ho 8 (by kernel_rfl)).trans rfl
          refine ⟨_, rfl, fun KR hKR => ?_⟩
          obtain ⟨hc, hf⟩ := ch' hB
          clear hs ho
          go_simp
          exact hKR _ _ rfl (Below.refl _ _) (fun h => by cases h)
        · intro a W hs ho hB
          have e12 : a.tmps[12]? = some (.int .i64 U3) := (ho 12 (by kernel_rfl)).trans rfl
          refine ⟨_, rfl, fun KR hKR => ?_⟩
          obtain ⟨hc, hf⟩ := ch' hB
          clear hs ho
          go_simp
          exact hKR _ _ rfl (Below.refl _ _) (fun h => by cases h)
        · intro a W hs ho hB
          have e12 : a.tmps[12]? = some (.int .i64 U3) := (ho 12 (by kernel_rfl)).trans rfl
          refine ⟨_, rfl, fun KR hKR => ?_⟩
          obtain ⟨hc, hf⟩ := ch' hB
          clear hs ho
          go_simp
          exact hKR _ _ rfl (Below.refl _ _) (fun h => by cases h)
        · intro a W hs ho hB
          have e69 : a.tmps[69]? = some (.int .i64 U3) := hs 1 (by kernel_rfl) _ rfl 69 rfl
          have e70 : a.tmps[70]? = some (.int .i64 U3) := hs 2 (by kernel_rfl) _ rfl 70 rfl
          refine ⟨_, rfl, fun KR hKR => ?_⟩
          obtain ⟨hc, hf⟩ := ch' hB
          clear hs ho
          go_simp
          exact hKR _ _ rfl (Below.refl _ _) (fun h => by cases h)
        · intro a W hs ho hB
          have e68 : a.tmps[68]? = some (.agg #[.int .i64 L2, .int .i64 M2]) := hs 0 (by kernel_rfl) _ rfl 68 rfl
          have e71 : a.tmps[71]? = some (.agg #[.int .i64 U3, .int .i64 U3]) := hs 3 (by kernel_rfl) _ rfl 71 rfl
          refine ⟨_, rfl, fun KR hKR => ?_⟩
          obtain ⟨hc, hf⟩ := ch' hB
          clear hs ho
          go_simp
          (go_at_call 47; refine (sjoin_is _ _ _ _ _ _ _ HA3.out HB3.out).mono ?_; rintro e w1 ⟨rfl, hb⟩)
          exact hKR _ _ rfl hb (fun h => by cases h)
        · intro a W hs ho hB
          have e9 : a.tmps[9]? = some (.pointer (some ⟨g9, 0, none⟩)) := (ho 9 (by kernel_rfl)).trans rfl
          refine ⟨_, rfl, fun KR hKR => ?_⟩
          obtain ⟨hc, hf⟩ := ch' hB
          clear hs ho
          go_simp
          exact hKR _ _ rfl (Below.refl _ _) (fun h => by cases h)
        · intro a W hs ho hB
          have e13 : a.tmps[13]? = some (.int .i64 V3) := (ho 13 (by kernel_rfl)).trans rfl
          refine ⟨_, rfl, fun KR hKR => ?_⟩
          obtain ⟨hc, hf⟩ := ch' hB
          clear hs ho
          go_simp
          exact hKR _ _ rfl (Below.refl _ _) (fun h => by cases h)
        · intro a W hs ho hB
          have e13 : a.tmps[13]? = some (.int .i64 V3) := (ho 13 (by kernel_rfl)).trans rfl
          refine ⟨_, rfl, fun KR hKR => ?_⟩
          obtain ⟨hc, hf⟩ := ch' hB
          clear hs ho
          go_simp
          exact hKR _ _ rfl (Below.refl _ _) (fun h => by cases h)
        · intro a W hs ho hB
          have e74 : a.tmps[74]? = some (.int .i64 V3) := hs 6 (by kernel_rfl) _ rfl 74 rfl
          have e75 : a.tmps[75]? = some (.int .i64 V3) := hs 7 (by kernel_rfl) _ rfl 75 rfl
          refine ⟨_, rfl, fun KR hKR => ?_⟩
          obtain ⟨hc, hf⟩ := ch' hB
          clear hs ho
          go_simp
          exact hKR _ _ rfl (Below.refl _ _) (fun h => by cases h)
        · intro a W hs ho hB
          have e73 : a.tmps[73]? = some (.agg #[.int .i64 N2, .int .i64 O2]) := hs 5 (by kernel_rfl) _ rfl 73 rfl
          have e76 : a.tmps[76]? = some (.agg #[.int .i64 V3, .int .i64 V3]) := hs 8 (by kernel_rfl) _ rfl 76 rfl
          refine ⟨_, rfl, fun KR hKR => ?_⟩
          obtain ⟨hc, hf⟩ := ch' hB
          clear hs ho
          go_simp
          (go_at_call 47; refine (sjoin_is _ _ _ _ _ _ _ HC3.out HD3.out).mono ?_; rintro e w1 ⟨rfl, hb⟩)
          exact hKR _ _ rfl hb (fun h => by cases h)
      · intro vals W hv hne hB
        have v0 : vals 0 = .agg #[.int .i64 L2, .int .i64 M2] := hv 0 (Nat.le_of_ble_eq_true rfl)
        have v1 : vals 1 = .int .i64 U3 := hv 1 (Nat.le_of_ble_eq_true rfl)
        have v2 : vals 2 = .int .i64 U3 := hv 2 (Nat.le_of_ble_eq_true rfl)
        have v3 : vals 3 = .agg #[.int .i64 U3, .int .i64 U3] := hv 3 (Nat.le_of_ble_eq_true rfl)
        have v4 : vals 4 = .agg #[.int .i64 L3, .int .i64 M3] := hv 4 (Nat.le_of_ble_eq_true rfl)
        have v5 : vals 5 = .agg #[.int .i64 N2, .int .i64 O2] := hv 5 (Nat.le_of_ble_eq_true rfl)
        have v6 : vals 6 = .int .i64 V3 := hv 6 (Nat.le_of_ble_eq_true rfl)
        have v7 : vals 7 = .int .i64 V3 := hv 7 (Nat.le_of_ble_eq_true rfl)
        have v8 : vals 8 = .agg #[.int .i64 V3, .int .i64 V3] := hv 8 (Nat.le_of_ble_eq_true rfl)
        have v9 : vals 9 = .agg #[.int .i64 N3, .int .i64 O3] := hv 9 (Nat.le_of_ble_eq_true rfl)
        simp only [List.length_cons, List.length_nil, Nat.zero_add, Nat.reduceAdd, slots, if_true, dstOf, List.getElem?_toArray, List.getElem?_cons_zero, List.getElem?_cons_succ, Option.bind_some, Act.put, List.setIfInBounds_toArray, List.set_cons_zero, List.set_cons_succ, v0, v1, v2, v3, v4, v5, v6, v7, v8, v9]
        clear hv hne v0 v1 v2 v3 v4 v5 v6 v7 v8 v9
        obtain ⟨hO_c, hO_f⟩ := ch' hB
        change wpAny _ _ _ _ 2 _ _ _
        refine wpAny_ready (rs := [10]) (by kernel_rfl) (by simp) ?_
        refine AllReady.cons (o := { dst := none, op := Go.Op.store 73 (Go.Operand.tmp 8) (Go.Operand.tmp 72), type := 0, pos := "rect.go:191", after := #[{ on := 4, ground := Go.Ground.data }, { on := 9, ground := Go.Ground.chain }, { on := 0, ground := Go.Ground.phase }, { on := 1, ground := Go.Ground.phase }, { on := 2, ground := Go.Ground.phase }, { on := 3, ground := Go.Ground.phase }, { on := 4, ground := Go.Ground.phase }, { on := 5, ground := Go.Ground.textOnly Go.Departure.lateStores }, { on := 6, ground := Go.Ground.textOnly Go.Departure.lateStores }, { on := 7, ground := Go.Ground.textOnly Go.Departure.lateStores }, { on := 8, ground := Go.Ground.textOnly Go.Departure.lateStores }, { on := 9, ground := Go.Ground.textOnly Go.Departure.lateStoresUnsure }], guard := none }) rfl (fun KR hKR => ?_) AllReady.nil
        go_simp
        refine hKR _ _ ?_
        clear hKR KR
        (try simp only [Act.put, List.setIfInBounds_toArray, List.set_cons_zero, List.set_cons_succ])
        refine wpAny_ready (rs := [11]) (by kernel_rfl) (by simp) ?_
        refine AllReady.cons (o := { dst := none, op := Go.Op.store 73 (Go.Operand.tmp 9) (Go.Operand.tmp 77), type := 0, pos := "rect.go:191", after := #[{ on := 9, ground := Go.Ground.data }, { on := 10, ground := Go.Ground.chain }, { on := 0, ground := Go.Ground.phase }, { on := 1, ground := Go.Ground.phase }, { on := 2, ground := Go.Ground.phase }, { on := 3, ground := Go.Ground.phase }, { on := 4, ground := Go.Ground.phase }, { on := 5, ground := Go.Ground.phase }, { on := 6, ground := Go.Ground.phase }, { on := 7, ground := Go.Ground.phase }, { on := 8, ground := Go.Ground.phase }, { on := 9, ground := Go.Ground.phase }, { on := 10, ground := Go.Ground.phase }], guard := none }) rfl (fun KR hKR => ?_) AllReady.nil
        go_simp
        refine hKR _ _ ?_
        clear hKR KR
        (try simp only [Act.put, List.setIfInBounds_toArray, List.set_cons_zero, List.set_cons_succ])
        refine wpAny_done (by kernel_rfl) ?_ _
        clear hO_c hO_f
        generalize hW2 : World.setCell _ _ _ = W3
        have hB2 : Below g8 wk3 W3 := by rw [← hW2]; exact (((((hB.mono (show g8 ≤ wk3.heap.size by omega)).setCell (p := ⟨g8, 0, none⟩) (show g8 ≤ g8 by omega) _).setCell (p := ⟨g8, 1, none⟩) (show g8 ≤ g8 by omega) _).setCell (p := ⟨g9, 0, none⟩) (show g8 ≤ g9 by omega) _).setCell (p := ⟨g9, 1, none⟩) (show g8 ≤ g9 by omega) _)
        have hq_g8 : W3.heap[g8]? = some (.cells #[.int .i64 L3, .int .i64 M3] 73 (0, 0)) := by rw [← hW2]; exact (set_ne (show g8 ≠ g9 by omega) (set_ne (show g8 ≠ g9 by omega) (set_same (set_same ((hB.block g8 (heap_lt hh_g8)).trans hh_g8)))))
        have hq_g9 : W3.heap[g9]? = some (.cells #[.int .i64 N3, .int .i64 O3] 73 (0, 0)) := by rw [← hW2]; exact (set_same (set_same (set_ne (show g9 ≠ g8 by omega) (set_ne (show g9 ≠ g8 by omega) ((hB.block g9 (heap_lt hh_g9)).trans hh_g9)))))
        have hS2 : wk3.heap.size ≤ W3.heap.size := by rw [← hW2]; simp only [World.size_setCell]; exact hB.size
        clear hW2
        clear c8_0 c8_1 c9_0 c9_1 f8_0 f8_1 f9_0 f9_1
        replace hh_g8 := hq_g8
        replace hh_g9 := hq_g9
        replace HBW := HBW.trans hB2
        clear hq_g8 hq_g9 hB2
        go_wp2_with fail
        have lz8 : g8 < W3.heap.size := heap_lt hh_g8
        have lz9 : g9 < W3.heap.size := heap_lt hh_g9
        have lz0 : w.heap.size < W3.heap.size := by omega
        have lz1 : w.heap.size + 1 < W3.heap.size := by omega
        have hcw : ∀ b o, b < g8 → W3.cell? ⟨b, o, none⟩ = wt.cell? ⟨b, o, none⟩ := fun b o h => HBW.cell (p := ⟨b, o, none⟩) h
        rw [rounds_succ]
        go_wp2_with fail
        have hq1 : L3 / 65536 + e = X := by rw [← HQ1.out, HA1.out, HA2.out, HA3.out]
        have hq2 : upF M3 + e - X = P := by rw [← HQ2.out, HB1.out, HB2.out, HB3.out]
        have hq3 : N3 / 65536 + f = Y := by rw [← HQ3.out, HC1.out, HC2.out, HC3.out]
        have hq4 : upF O3 + f - Y = Q := by rw [← HQ4.out, HD1.out, HD2.out, HD3.out]
        obtain ⟨z1, z1'⟩ : -4611686018427387904 ≤ L3 ∧ L3 ≤ 4611686018427387904 := by rw [← HA3.out, ← HA2.out, ← HA1.out]; omega
        obtain ⟨z2, z2'⟩ : -4611686018427387904 ≤ M3 ∧ M3 ≤ 4611686018427387904 := by rw [← HB3.out, ← HB2.out, ← HB1.out]; omega
        obtain ⟨z3, z3'⟩ : -4611686018427387904 ≤ N3 ∧ N3 ≤ 4611686018427387904 := by rw [← HC3.out, ← HC2.out, ← HC1.out]; omega
        obtain ⟨z4, z4'⟩ : -4611686018427387904 ≤ O3 ∧ O3 ≤ 4611686018427387904 := by rw [← HD3.out, ← HD2.out, ← HD1.out]; omega
        obtain ⟨u2, u2'⟩ := up_bd z2 z2'
        obtain ⟨u4, u4'⟩ := up_bd z4 z4'
        have ww1 : IntKind.i64.wrap (L3 / 65536 + e) = L3 / 65536 + e := IntWalk.i64_in _ (by omega)
        have ww2 : IntKind.i64.wrap (upF M3 + e) = upF M3 + e := IntWalk.i64_in _ (by omega)
        have ww3 : IntKind.i64.wrap (N3 / 65536 + f) = N3 / 65536 + f := IntWalk.i64_in _ (by omega)
        have ww4 : IntKind.i64.wrap (upF O3 + f) = upF O3 + f := IntWalk.i64_in _ (by omega)
        have HP1 := Lib.hid (show upF M3 + e - (L3 / 65536 + e) = P by rw [hq1]; exact hq2)
        have HP2 := Lib.hid (show upF O3 + f - (N3 / 65536 + f) = Q by rw [hq3]; exact hq4)
        have HX := Lib.hid hq1
        have HY := Lib.hid hq3
        clear hq1 hq2 hq3 hq4
        have c8_0 := cell_of_heap hh_g8 (j := 0) rfl
        have c8_1 := cell_of_heap hh_g8 (j := 1) rfl
        have c9_0 := cell_of_heap hh_g9 (j := 0) rfl
        have c9_1 := cell_of_heap hh_g9 (j := 1) rfl
        have hR0 : W3.heap[gR]? = some (.cells #[.int .i64 0, .int .i64 0, .int .i64 0, .int .i64 0] 24 (0, 0)) := by rw [HBW.block gR hzR, HGR.out]; exact HRH.out
        have cR0 := cell_of_heap hR0 (j := 0) rfl
        have cR1 := cell_of_heap hR0 (j := 1) rfl
        have cR2 := cell_of_heap hR0 (j := 2) rfl
        have cR3 := cell_of_heap hR0 (j := 3) rfl
        have hRt : wt.heap[gR]? = some (.cells #[.int .i64 0, .int .i64 0, .int .i64 0, .int .i64 0] 24 (0, 0)) := by rw [HGR.out]; exact HRH.out
        have cT0 := cell_of_heap hRt (j := 0) rfl
        have cT1 := cell_of_heap hRt (j := 1) rfl
        have cT2 := cell_of_heap hRt (j := 2) rfl
        have cT3 := cell_of_heap hRt (j := 3) rfl
        clear hRt
        have fR := fun j => frozen_of_heap (j := j) hR0
        have lzR : gR < W3.heap.size := by omega
        have hh_gR := hR0
        clear hR0
        refine drawn_data (w := W3) ([.inl (.pointer (some ⟨g8, 0, none⟩)), .inl (.int .i64 L3), .inl (.int .i64 (L3 / 65536)), .inl (.pointer (some ⟨w.heap.size, 4, none⟩)), .inl (.int .i64 e), .inl (.int .i64 ((L3 / 65536) + e)), .inl (.pointer (some ⟨g8, 1, none⟩)), .inl (.int .i64 M3), .inl (.int .i64 (upF M3)), .inl (.pointer (some ⟨w.heap.size, 4, none⟩)), .inl (.int .i64 e), .inl (.int .i64 ((upF M3) + e)), .inl (.agg #[.int .i64 ((L3 / 65536) + e), .int .i64 ((upF M3) + e)]), .inl (.pointer (some ⟨g9, 0, none⟩)), .inl (.int .i64 N3), .inl (.int .i64 (N3 / 65536)), .inl (.pointer (some ⟨w.heap.size, 5, none⟩)), .inl (.int .i64 f), .inl (.int .i64 ((N3 / 65536) + f)), .inl (.pointer (some ⟨g9, 1, none⟩)), .inl (.int .i64 O3), .inl (.int .i64 (upF O3)), .inl (.pointer (some ⟨w.heap.size, 5, none⟩)), .inl (.int .i64 f), .inl (.int .i64 ((upF O3) + f)), .inl (.agg #[.int .i64 ((N3 / 65536) + f), .int .i64 ((upF O3) + f)]), .inl (.agg #[.int .i64 X, .int .i64 Y, .int .i64 P, .int .i64 Q]), .inl (.tuple #[.agg #[.int .i64 x', .int .i64 y', .int .i64 u', .int .i64 v'], .int .i64 je]), .inl (.agg #[.int .i64 x', .int .i64 y', .int .i64 u', .int .i64 v']), .inl (.int .i64 je)] : List Leaves) (by kernel_rfl) (by kernel_rfl) (by kernel_rfl) ?_ ?_
        · intro i hi
          rcases (show i = 0 ∨ i = 1 ∨ i = 2 ∨ i = 3 ∨ i = 4 ∨ i = 5 ∨ i = 6 ∨ i = 7 ∨ i = 8 ∨ i = 9 ∨ i = 10 ∨ i = 11 ∨ i = 12 ∨ i = 13 ∨ i = 14 ∨ i = 15 ∨ i = 16 ∨ i = 17 ∨ i = 18 ∨ i = 19 ∨ i = 20 ∨ i = 21 ∨ i = 22 ∨ i = 23 ∨ i = 24 ∨ i = 25 ∨ i = 26 ∨ i = 27 ∨ i = 28 ∨ i = 29 by simp at hi; omega) with rfl | rfl | rfl | rfl | rfl | rfl | rfl | rfl | rfl | rfl | rfl | rfl | rfl | rfl | rfl | rfl | rfl | rfl | rfl | rfl | rfl | rfl | rfl | rfl | rfl | rfl | rfl | rfl | rfl | rfl
          · intro a W hs ho hB
            have e8 : a.tmps[8]? = some (.pointer (some ⟨g8, 0, none⟩)) := (ho 8 (by kernel_rfl)).trans rfl
            refine ⟨_, rfl, fun KR hKR => ?_⟩
            obtain ⟨hc, hf⟩ := ch' hB
            clear hs ho
            go_simp
            exact hKR _ _ rfl (Below.refl _ _) (fun h => by cases h)
          · intro a W hs ho hB
            have e79 : a.tmps[79]? = some (.pointer (some ⟨g8, 0, none⟩)) := hs 0 (by kernel_rfl) _ rfl 79 rfl
            refine ⟨_, rfl, fun KR hKR => ?_⟩
            obtain ⟨hc, hf⟩ := ch' hB
            clear hs ho
            go_simp
            exact hKR _ _ rfl (Below.refl _ _) (fun h => by cases h)
          · intro a W hs ho hB
            have e80 : a.tmps[80]? = some (.int .i64 L3) := hs 1 (by kernel_rfl) _ rfl 80 rfl
            refine ⟨_, rfl, fun KR hKR => ?_⟩
            obtain ⟨hc, hf⟩ := ch' hB
            clear hs ho
            go_simp
            (go_at_call 49; refine (down_any _ _).mono ?_; rintro e w1 ⟨rfl, rfl⟩; have hb := Below.refl W.heap.size W)
            exact hKR _ _ rfl hb (fun h => by cases h)
          · intro a W hs ho hB
            have e2 : a.tmps[2]? = some (.pointer (some ⟨w.heap.size, 0, none⟩)) := (ho 2 (by kernel_rfl)).trans rfl
            refine ⟨_, rfl, fun KR hKR => ?_⟩
            obtain ⟨hc, hf⟩ := ch' hB
            clear hs ho
            go_simp
            exact hKR _ _ rfl (Below.refl _ _) (fun h => by cases h)
          · intro a W hs ho hB
            have e82 : a.tmps[82]? = some (.pointer (some ⟨w.heap.size, 4, none⟩)) := hs 3 (by kernel_rfl) _ rfl 82 rfl
            refine ⟨_, rfl, fun KR hKR => ?_⟩
            obtain ⟨hc, hf⟩ := ch' hB
            clear hs ho
            go_simp
            exact hKR _ _ rfl (Below.refl _ _) (fun h => by cases h)
          · intro a W hs ho hB
            have e81 : a.tmps[81]? = some (.int .i64 (L3 / 65536)) := hs 2 (by kernel_rfl) _ rfl 81 rfl
            have e83 : a.tmps[83]? = some (.int .i64 e) := hs 4 (by kernel_rfl) _ rfl 83 rfl
            refine ⟨_, rfl, fun KR hKR => ?_⟩
            obtain ⟨hc, hf⟩ := ch' hB
            clear hs ho
            go_simp
            exact hKR _ _ rfl (Below.refl _ _) (fun h => by cases h)
          · intro a W hs ho hB
            have e8 : a.tmps[8]? = some (.pointer (some ⟨g8, 0, none⟩)) := (ho 8 (by kernel_rfl)).trans rfl
            refine ⟨_, rfl, fun KR hKR => ?_⟩
            obtain ⟨hc, hf⟩ := ch' hB
            clear hs ho
            go_simp
            exact hKR _ _ rfl (Below.refl _ _) (fun h => by cases h)
          · intro a W hs ho hB
            have e85 : a.tmps[85]? = some (.pointer (some ⟨g8, 1, none⟩)) := hs 6 (by kernel_rfl) _ rfl 85 rfl
            refine ⟨_, rfl, fun KR hKR => ?_⟩
            obtain ⟨hc, hf⟩ := ch' hB
            clear hs ho
            go_simp
            exact hKR _ _ rfl (Below.refl _ _) (fun h => by cases h)
          · intro a W hs ho hB
            have e86 : a.tmps[86]? = some (.int .i64 M3) := hs 7 (by kernel_rfl) _ rfl 86 rfl
            refine ⟨_, rfl, fun KR hKR => ?_⟩
            obtain ⟨hc, hf⟩ := ch' hB
            clear hs ho
            go_simp
            (go_at_call 50; refine (up_any _ _ z2 z2').mono ?_; rintro e w1 ⟨rfl, rfl⟩; have hb := Below.refl W.heap.size W)
            exact hKR _ _ rfl hb (fun h => by cases h)
          · intro a W hs ho hB
            have e2 : a.tmps[2]? = some (.pointer (some ⟨w.heap.size, 0, none⟩)) := (ho 2 (by kernel_rfl)).trans rfl
            refine ⟨_, rfl, fun KR hKR => ?_⟩
            obtain ⟨hc, hf⟩ := ch' hB
            clear hs ho
            go_simp
            exact hKR _ _ rfl (Below.refl _ _) (fun h => by cases h)
          · intro a W hs ho hB
            have e88 : a.tmps[88]? = some (.pointer (some ⟨w.heap.size, 4, none⟩)) := hs 9 (by kernel_rfl) _ rfl 88 rfl
            refine ⟨_, rfl, fun KR hKR => ?_⟩
            obtain ⟨hc, hf⟩ := ch' hB
            clear hs ho
            go_simp
            exact hKR _ _ rfl (Below.refl _ _) (fun h => by cases h)
          · intro a W hs ho hB
            have e87 : a.tmps[87]? = some (.int .i64 (upF M3)) := hs 8 (by kernel_rfl) _ rfl 87 rfl
            have e89 : a.tmps[89]? = some (.int .i64 e) := hs 10 (by kernel_rfl) _ rfl 89 rfl
            refine ⟨_, rfl, fun KR hKR => ?_⟩
            obtain ⟨hc, hf⟩ := ch' hB
            clear hs ho
            go_simp
            exact hKR _ _ rfl (Below.refl _ _) (fun h => by cases h)
          · intro a W hs ho hB
            have e84 : a.tmps[84]? = some (.int .i64 ((L3 / 65536) + e)) := hs 5 (by kernel_rfl) _ rfl 84 rfl
            have e90 : a.tmps[90]? = some (.int .i64 ((upF M3) + e)) := hs 11 (by kernel_rfl) _ rfl 90 rfl
            refine ⟨_, rfl, fun KR hKR => ?_⟩
            obtain ⟨hc, hf⟩ := ch' hB
            clear hs ho
            go_simp
            exact hKR _ _ rfl (Below.refl _ _) (fun h => by cases h)
          · intro a W hs ho hB
            have e9 : a.tmps[9]? = some (.pointer (some ⟨g9, 0, none⟩)) := (ho 9 (by kernel_rfl)).trans rfl
            refine ⟨_, rfl, fun KR hKR => ?_⟩
            obtain ⟨hc, hf⟩ := ch' hB
            clear hs ho
            go_simp
            exact hKR _ _ rfl (Below.refl _ _) (fun h => by cases h)
          · intro a W hs ho hB
            have e92 : a.tmps[92]? = some (.pointer (some ⟨g9, 0, none⟩)) := hs 13 (by kernel_rfl) _ rfl 92 rfl
            refine ⟨_, rfl, fun KR hKR => ?_⟩
            obtain ⟨hc, hf⟩ := ch' hB
            clear hs ho
            go_simp
            exact hKR _ _ rfl (Below.refl _ _) (fun h => by cases h)
          · intro a W hs ho hB
            have e93 : a.tmps[93]? = some (.int .i64 N3) := hs 14 (by kernel_rfl) _ rfl 93 rfl
            refine ⟨_, rfl, fun KR hKR => ?_⟩
            obtain ⟨hc, hf⟩ := ch' hB
            clear hs ho
            go_simp
            (go_at_call 49; refine (down_any _ _).mono ?_; rintro e w1 ⟨rfl, rfl⟩; have hb := Below.refl W.heap.size W)
            exact hKR _ _ rfl hb (fun h => by cases h)
          · intro a W hs ho hB
            have e2 : a.tmps[2]? = some (.pointer (some ⟨w.heap.size, 0, none⟩)) := (ho 2 (by kernel_rfl)).trans rfl
            refine ⟨_, rfl, fun KR hKR => ?_⟩
            obtain ⟨hc, hf⟩ := ch' hB
            clear hs ho
            go_simp
            exact hKR _ _ rfl (Below.refl _ _) (fun h => by cases h)
          · intro a W hs ho hB
            have e95 : a.tmps[95]? = some (.pointer (some ⟨w.heap.size, 5, none⟩)) := hs 16 (by kernel_rfl) _ rfl 95 rfl
            refine ⟨_, rfl, fun KR hKR => ?_⟩
            obtain ⟨hc, hf⟩ := ch' hB
            clear hs ho
            go_simp
            exact hKR _ _ rfl (Below.refl _ _) (fun h => by cases h)
          · intro a W hs ho hB
            have e94 : a.tmps[94]? = some (.int .i64 (N3 / 65536)) := hs 15 (by kernel_rfl) _ rfl 94 rfl
            have e96 : a.tmps[96]? = some (.int .i64 f) := hs 17 (by kernel_rfl) _ rfl 96 rfl
            refine ⟨_, rfl, fun KR hKR => ?_⟩
            obtain ⟨hc, hf⟩ := ch' hB
            clear hs ho
            go_simp
            exact hKR _ _ rfl (Below.refl _ _) (fun h => by cases h)
          · intro a W hs ho hB
            have e9 : a.tmps[9]? = some (.pointer (some ⟨g9, 0, none⟩)) := (ho 9 (by kernel_rfl)).trans rfl
            refine ⟨_, rfl, fun KR hKR => ?_⟩
            obtain ⟨hc, hf⟩ := ch' hB
            clear hs ho
            go_simp
            exact hKR _ _ rfl (Below.refl _ _) (fun h => by cases h)
          · intro a W hs ho hB
            have e98 : a.tmps[98]? = some (.pointer (some ⟨g9, 1, none⟩)) := hs 19 (by kernel_rfl) _ rfl 98 rfl
            refine ⟨_, rfl, fun KR hKR => ?_⟩
            obtain ⟨hc, hf⟩ := ch' hB
            clear hs ho
            go_simp
            exact hKR _ _ rfl (Below.refl _ _) (fun h => by cases h)
          · intro a W hs ho hB
            have e99 : a.tmps[99]? = some (.int .i64 O3) := hs 20 (by kernel_rfl) _ rfl 99 rfl
            refine ⟨_, rfl, fun KR hKR => ?_⟩
            obtain ⟨hc, hf⟩ := ch' hB
            clear hs ho
            go_simp
            (go_at_call 50; refine (up_any _ _ z4 z4').mono ?_; rintro e w1 ⟨rfl, rfl⟩; have hb := Below.refl W.heap.size W)
            exact hKR _ _ rfl hb (fun h => by cases h)
          · intro a W hs ho hB
            have e2 : a.tmps[2]? = some (.pointer (some ⟨w.heap.size, 0, none⟩)) := (ho 2 (by kernel_rfl)).trans rfl
            refine ⟨_, rfl, fun KR hKR => ?_⟩
            obtain ⟨hc, hf⟩ := ch' hB
            clear hs ho
            go_simp
            exact hKR _ _ rfl (Below.refl _ _) (fun h => by cases h)
          · intro a W hs ho hB
            have e101 : a.tmps[101]? = some (.pointer (some ⟨w.heap.size, 5, none⟩)) := hs 22 (by kernel_rfl) _ rfl 101 rfl
            refine ⟨_, rfl, fun KR hKR => ?_⟩
            obtain ⟨hc, hf⟩ := ch' hB
            clear hs ho
            go_simp
            exact hKR _ _ rfl (Below.refl _ _) (fun h => by cases h)
          · intro a W hs ho hB
            have e100 : a.tmps[100]? = some (.int .i64 (upF O3)) := hs 21 (by kernel_rfl) _ rfl 100 rfl
            have e102 : a.tmps[102]? = some (.int .i64 f) := hs 23 (by kernel_rfl) _ rfl 102 rfl
            refine ⟨_, rfl, fun KR hKR => ?_⟩
            obtain ⟨hc, hf⟩ := ch' hB
            clear hs ho
            go_simp
            exact hKR _ _ rfl (Below.refl _ _) (fun h => by cases h)
          · intro a W hs ho hB
            have e97 : a.tmps[97]? = some (.int .i64 ((N3 / 65536) + f)) := hs 18 (by kernel_rfl) _ rfl 97 rfl
            have e103 : a.tmps[103]? = some (.int .i64 ((upF O3) + f)) := hs 24 (by kernel_rfl) _ rfl 103 rfl
            refine ⟨_, rfl, fun KR hKR => ?_⟩
            obtain ⟨hc, hf⟩ := ch' hB
            clear hs ho
            go_simp
            exact hKR _ _ rfl (Below.refl _ _) (fun h => by cases h)
          · intro a W hs ho hB
            have e91 : a.tmps[91]? = some (.agg #[.int .i64 ((L3 / 65536) + e), .int .i64 ((upF M3) + e)]) := hs 12 (by kernel_rfl) _ rfl 91 rfl
            have e104 : a.tmps[104]? = some (.agg #[.int .i64 ((N3 / 65536) + f), .int .i64 ((upF O3) + f)]) := hs 25 (by kernel_rfl) _ rfl 104 rfl
            refine ⟨_, rfl, fun KR hKR => ?_⟩
            obtain ⟨hc, hf⟩ := ch' hB
            clear hs ho
            go_simp
            (go_at_call 44; refine (of_is _ _ _ _ _ _ _ _ _ HX.out HY.out HP1.out HP2.out (by omega) (by omega) (by omega) (by omega)).mono ?_; rintro e w1 ⟨rfl, hb⟩)
            exact hKR _ _ rfl hb (fun h => by cases h)
          · intro a W hs ho hB
            have e105 : a.tmps[105]? = some (.agg #[.int .i64 X, .int .i64 Y, .int .i64 P, .int .i64 Q]) := hs 26 (by kernel_rfl) _ rfl 105 rfl
            refine ⟨_, rfl, fun KR hKR => ?_⟩
            obtain ⟨hc, hf⟩ := ch' hB
            clear hs ho
            go_simp
            (go_at_call 46; refine (hfit _).mono ?_; rintro e w1 ⟨rfl, hb⟩)
            exact hKR _ _ rfl hb (fun h => by cases h)
          · intro a W hs ho hB
            have e106 : a.tmps[106]? = some (.tuple #[.agg #[.int .i64 x', .int .i64 y', .int .i64 u', .int .i64 v'], .int .i64 je]) := hs 27 (by kernel_rfl) _ rfl 106 rfl
            refine ⟨_, rfl, fun KR hKR => ?_⟩
            obtain ⟨hc, hf⟩ := ch' hB
            clear hs ho
            go_simp
            exact hKR _ _ rfl (Below.refl _ _) (fun h => by cases h)
          · intro a W hs ho hB
            have e106 : a.tmps[106]? = some (.tuple #[.agg #[.int .i64 x', .int .i64 y', .int .i64 u', .int .i64 v'], .int .i64 je]) := hs 27 (by kernel_rfl) _ rfl 106 rfl
            refine ⟨_, rfl, fun KR hKR => ?_⟩
            obtain ⟨hc, hf⟩ := ch' hB
            clear hs ho
            go_simp
            exact hKR _ _ rfl (Below.refl _ _) (fun h => by cases h)
        · intro vals W hv hne hB
          have v0 : vals 0 = .pointer (some ⟨g8, 0, none⟩) := hv 0 (Nat.le_of_ble_eq_true rfl)
          have v1 : vals 1 = .int .i64 L3 := hv 1 (Nat.le_of_ble_eq_true rfl)
          have v2 : vals 2 = .int .i64 (L3 / 65536) := hv 2 (Nat.le_of_ble_eq_true rfl)
          have v3 : vals 3 = .pointer (some ⟨w.heap.size, 4, none⟩) := hv 3 (Nat.le_of_ble_eq_true rfl)
          have v4 : vals 4 = .int .i64 e := hv 4 (Nat.le_of_ble_eq_true rfl)
          have v5 : vals 5 = .int .i64 ((L3 / 65536) + e) := hv 5 (Nat.le_of_ble_eq_true rfl)
          have v6 : vals 6 = .pointer (some ⟨g8, 1, none⟩) := hv 6 (Nat.le_of_ble_eq_true rfl)
          have v7 : vals 7 = .int .i64 M3 := hv 7 (Nat.le_of_ble_eq_true rfl)
          have v8 : vals 8 = .int .i64 (upF M3) := hv 8 (Nat.le_of_ble_eq_true rfl)
          have v9 : vals 9 = .pointer (some ⟨w.heap.size, 4, none⟩) := hv 9 (Nat.le_of_ble_eq_true rfl)
          have v10 : vals 10 = .int .i64 e := hv 10 (Nat.le_of_ble_eq_true rfl)
          have v11 : vals 11 = .int .i64 ((upF M3) + e) := hv 11 (Nat.le_of_ble_eq_true rfl)
          have v12 : vals 12 = .agg #[.int .i64 ((L3 / 65536) + e), .int .i64 ((upF M3) + e)] := hv 12 (Nat.le_of_ble_eq_true rfl)
          have v13 : vals 13 = .pointer (some ⟨g9, 0, none⟩) := hv 13 (Nat.le_of_ble_eq_true rfl)
          have v14 : vals 14 = .int .i64 N3 := hv 14 (Nat.le_of_ble_eq_true rfl)
          have v15 : vals 15 = .int .i64 (N3 / 65536) := hv 15 (Nat.le_of_ble_eq_true rfl)
          have v16 : vals 16 = .pointer (some ⟨w.heap.size, 5, none⟩) := hv 16 (Nat.le_of_ble_eq_true rfl)
          have v17 : vals 17 = .int .i64 f := hv 17 (Nat.le_of_ble_eq_true rfl)
          have v18 : vals 18 = .int .i64 ((N3 / 65536) + f) := hv 18 (Nat.le_of_ble_eq_true rfl)
          have v19 : vals 19 = .pointer (some ⟨g9, 1, none⟩) := hv 19 (Nat.le_of_ble_eq_true rfl)
          have v20 : vals 20 = .int .i64 O3 := hv 20 (Nat.le_of_ble_eq_true rfl)
          have v21 : vals 21 = .int .i64 (upF O3) := hv 21 (Nat.le_of_ble_eq_true rfl)
          have v22 : vals 22 = .pointer (some ⟨w.heap.size, 5, none⟩) := hv 22 (Nat.le_of_ble_eq_true rfl)
          have v23 : vals 23 = .int .i64 f := hv 23 (Nat.le_of_ble_eq_true rfl)
          have v24 : vals 24 = .int .i64 ((upF O3) + f) := hv 24 (Nat.le_of_ble_eq_true rfl)
          have v25 : vals 25 = .agg #[.int .i64 ((N3 / 65536) + f), .int .i64 ((upF O3) + f)] := hv 25 (Nat.le_of_ble_eq_true rfl)
          have v26 : vals 26 = .agg #[.int .i64 X, .int .i64 Y, .int .i64 P, .int .i64 Q] := hv 26 (Nat.le_of_ble_eq_true rfl)
          have v27 : vals 27 = .tuple #[.agg #[.int .i64 x', .int .i64 y', .int .i64 u', .int .i64 v'], .int .i64 je] := hv 27 (Nat.le_of_ble_eq_true rfl)
          have v28 : vals 28 = .agg #[.int .i64 x', .int .i64 y', .int .i64 u', .int .i64 v'] := hv 28 (Nat.le_of_ble_eq_true rfl)
          have v29 : vals 29 = .int .i64 je := hv 29 (Nat.le_of_ble_eq_true rfl)
          simp only [List.length_cons, List.length_nil, Nat.zero_add, Nat.reduceAdd, slots, if_true, dstOf, List.getElem?_toArray, List.getElem?_cons_zero, List.getElem?_cons_succ, Option.bind_some, Act.put, List.setIfInBounds_toArray, List.set_cons_zero, List.set_cons_succ, v0, v1, v2, v3, v4, v5, v6, v7, v8, v9, v10, v11, v12, v13, v14, v15, v16, v17, v18, v19, v20, v21, v22, v23, v24, v25, v26, v27, v28, v29]
          clear hv hne v0 v1 v2 v3 v4 v5 v6 v7 v8 v9 v10 v11 v12 v13 v14 v15 v16 v17 v18 v19 v20 v21 v22 v23 v24 v25 v26 v27 v28 v29
          obtain ⟨hO_c, hO_f⟩ := ch' hB
          change wpAny _ _ _ _ 2 _ _ _
          refine wpAny_ready (rs := [30]) (by kernel_rfl) (by simp) ?_
          refine AllReady.cons (o := { dst := none, op := Go.Op.store 24 (Go.Operand.tmp 4) (Go.Operand.tmp 107), type := 0, pos := "rect.go:193", after := #[{ on := 28, ground := Go.Ground.data }, { on := 27, ground := Go.Ground.chain }, { on := 0, ground := Go.Ground.phase }, { on := 1, ground := Go.Ground.phase }, { on := 2, ground := Go.Ground.phase }, { on := 3, ground := Go.Ground.phase }, { on := 4, ground := Go.Ground.phase }, { on := 5, ground := Go.Ground.phase }, { on := 6, ground := Go.Ground.phase }, { on := 7, ground := Go.Ground.phase }, { on := 8, ground := Go.Ground.phase }, { on := 9, ground := Go.Ground.phase }, { on := 10, ground := Go.Ground.phase }, { on := 11, ground := Go.Ground.phase }, { on := 12, ground := Go.Ground.phase }, { on := 13, ground := Go.Ground.phase }, { on := 14, ground := Go.Ground.phase }, { on := 15, ground := Go.Ground.phase }, { on := 16, ground := Go.Ground.phase }, { on := 17, ground := Go.Ground.phase }, { on := 18, ground := Go.Ground.phase }, { on := 19, ground := Go.Ground.phase }, { on := 20, ground := Go.Ground.phase }, { on := 21, ground := Go.Ground.phase }, { on := 22, ground := Go.Ground.phase }, { on := 23, ground := Go.Ground.phase }, { on := 24, ground := Go.Ground.phase }, { on := 25, ground := Go.Ground.phase }, { on := 26, ground := Go.Ground.phase }, { on := 27, ground := Go.Ground.phase }, { on := 28, ground := Go.Ground.phase }, { on := 29, ground := Go.Ground.phase }], guard := none }) rfl (fun KR hKR => ?_) AllReady.nil
          go_simp
          refine hKR _ _ ?_
          clear hKR KR
          (try simp only [Act.put, List.setIfInBounds_toArray, List.set_cons_zero, List.set_cons_succ])
          refine wpAny_ready (rs := [31]) (by kernel_rfl) (by simp) ?_
          refine AllReady.cons (o := { dst := some 5, op := Go.Op.assign (Go.Operand.tmp 108), type := 30, pos := "rect.go:193", after := #[{ on := 29, ground := Go.Ground.data }, { on := 30, ground := Go.Ground.chain }, { on := 0, ground := Go.Ground.phase }, { on := 1, ground := Go.Ground.phase }, { on := 2, ground := Go.Ground.phase }, { on := 3, ground := Go.Ground.phase }, { on := 4, ground := Go.Ground.phase }, { on := 5, ground := Go.Ground.phase }, { on := 6, ground := Go.Ground.phase }, { on := 7, ground := Go.Ground.phase }, { on := 8, ground := Go.Ground.phase }, { on := 9, ground := Go.Ground.phase }, { on := 10, ground := Go.Ground.phase }, { on := 11, ground := Go.Ground.phase }, { on := 12, ground := Go.Ground.phase }, { on := 13, ground := Go.Ground.phase }, { on := 14, ground := Go.Ground.phase }, { on := 15, ground := Go.Ground.phase }, { on := 16, ground := Go.Ground.phase }, { on := 17, ground := Go.Ground.phase }, { on := 18, ground := Go.Ground.phase }, { on := 19, ground := Go.Ground.phase }, { on := 20, ground := Go.Ground.phase }, { on := 21, ground := Go.Ground.phase }, { on := 22, ground := Go.Ground.phase }, { on := 23, ground := Go.Ground.phase }, { on := 24, ground := Go.Ground.phase }, { on := 25, ground := Go.Ground.phase }, { on := 26, ground := Go.Ground.phase }, { on := 27, ground := Go.Ground.phase }, { on := 28, ground := Go.Ground.phase }, { on := 29, ground := Go.Ground.phase }, { on := 30, ground := Go.Ground.phase }], guard := none }) rfl (fun KR hKR => ?_) AllReady.nil
          go_simp
          refine hKR _ _ ?_
          clear hKR KR
          (try simp only [Act.put, List.setIfInBounds_toArray, List.set_cons_zero, List.set_cons_succ])
          refine wpAny_done (by kernel_rfl) ?_ _
          clear hO_c hO_f
          generalize hW2 : World.setCell _ _ _ = WF
          have hB2 : Below gR W3 WF := by rw [← hW2]; exact (((((hB.mono (show gR ≤ W3.heap.size by omega)).setCell (p := ⟨gR, 0, none⟩) (show gR ≤ gR by omega) _).setCell (p := ⟨gR, 1, none⟩) (show gR ≤ gR by omega) _).setCell (p := ⟨gR, 2, none⟩) (show gR ≤ gR by omega) _).setCell (p := ⟨gR, 3, none⟩) (show gR ≤ gR by omega) _)
          have hq_gR : WF.heap[gR]? = some (.cells #[.int .i64 x', .int .i64 y', .int .i64 u', .int .i64 v'] 24 (0, 0)) := by rw [← hW2]; exact (set_same (set_same (set_same (set_same ((hB.block gR (heap_lt hh_gR)).trans hh_gR)))))
          have hS2 : W3.heap.size ≤ WF.heap.size := by rw [← hW2]; simp only [World.size_setCell]; exact hB.size
          clear hW2
          have cF0 := cell_of_heap hq_gR (j := 0) rfl
          have cF1 := cell_of_heap hq_gR (j := 1) rfl
          have cF2 := cell_of_heap hq_gR (j := 2) rfl
          have cF3 := cell_of_heap hq_gR (j := 3) rfl
          have hbl : Below w.heap.size w WF := below_from (below_from HBT HBW (by omega)) hB2 (by have := HGR.out; omega)
          go_wp2_with fail
          exact bodyPost_ret (v := .tuple #[.agg #[.int .i64 x', .int .i64 y', .int .i64 u', .int .i64 v'], .int .i64 je]) (by simp [results, Try.results15, go_sem, *]) rfl ⟨rfl, hbl⟩
end Go.Proofs.Ytjekoaodgdodjaa
