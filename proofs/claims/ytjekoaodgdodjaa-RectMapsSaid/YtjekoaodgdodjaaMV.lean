/- rect.Back. -/
import Derived.Test.YtjekoaodgdodjaaMP
import Derived.Test.YtjekoaodgdodjaaDrawn2
import Derived.Test.YtjekoaodgdodjaaF
set_option linter.unusedVariables false
set_option linter.unusedSimpArgs false
namespace Go.Proofs.Ytjekoaodgdodjaa
open Go.RowKit
open Go.Proofs.YtjekoaodgdodjaaW.PrintWords (Drawn0)
open Go.Proofs.Ytjekoaodgdodjaa.Maps
def BackPost (w : World) (a b c d e f : Int) (r : Ending) (w' : World) : Prop := r = .returned (.tuple #[(backF ⟨a, b, c, d, e, f⟩).1.v, .int .i64 (backF ⟨a, b, c, d, e, f⟩).2]) ∧ Below w.heap.size w w'
set_option maxHeartbeats 1000000 in
theorem part_any (n k : Int) (g : Nat) (w : World) (hg : w.heap[g]? = some (.cells #[.int .i64 k] 3 (0, 0))) (h1 : -16777216 ≤ n) (h2 : n ≤ 16777216) (hk : ¬ k = 0) (k1 : -562949953421312 ≤ k) (k2 : k ≤ 562949953421312) :
    Calls Try.prog 60 #[.int .i64 n, .pointer (some ⟨g, 0, none⟩)] w fun e w' => e = .returned (.int .i64 (nearF (n * 4294967296) k)) ∧ Below w.heap.size w w' := by
  have q1 : IntKind.i64.wrap (n * 65536) = n * 65536 := IntWalk.i64_in _ (by omega)
  have q2 : IntKind.i64.wrap (n * 65536 * 65536) = n * 4294967296 := by rw [IntWalk.i64_in _ (by omega)]; omega
  have c0 := cell_of_heap hg (j := 0) rfl
  go_enter Try.func60, Try.ntmps60
  go_wp2_with (go_at_call 52; refine (near_any _ _ _ (by omega) (by omega) hk (by omega) (by omega)).mono ?_; rintro e w1 ⟨rfl, hb⟩; (try replace hb := undrew hb); obtain ⟨hc, hf⟩ := ch hb; have hz := hb.size; (try simp only [World.size_alloc, World.size_setCell, World.size_drew] at hz))
  go_ret
  exact ⟨rfl, by (repeat (first | with_reducible exact Below.refl _ _ | with_reducible apply below_alloc | with_reducible apply below_drew1 | with_reducible assumption | (with_reducible refine Keep.below (by assumption)) | (with_reducible refine bel ?_ (by assumption)) | ((with_reducible refine below_set ?_ ?_); rotate_left; (focus (first | assumption | omega | (simp; done) | (simp; omega))))))⟩
theorem back_no (a b c d e f : Int) (w : World) (h : fineB a b c d e f = false) :
    Calls Try.prog 36 #[.agg #[.int .i64 a, .int .i64 b, .int .i64 c, .int .i64 d, .int .i64 e, .int .i64 f]] w fun r w' => r = .returned (.tuple #[.agg #[.int .i64 0, .int .i64 0, .int .i64 0, .int .i64 0, .int .i64 0, .int .i64 0], .int .i64 1]) ∧ Below w.heap.size w w' := by
  go_enter Try.func36, Try.ntmps36
  go_wp2_with (go_at_call 18; refine (fine_any _ _ _ _ _ _ _).mono ?_; rintro e w1 ⟨rfl, hb⟩; (try replace hb := undrew hb); obtain ⟨hc, hf⟩ := ch hb; have hz := hb.size; (try simp only [World.size_alloc, World.size_setCell, World.size_drew] at hz); have zw0 : w.heap.size < w1.heap.size := (by omega); have zw1 : w.heap.size + 1 < w1.heap.size := (by omega))
  exact bodyPost_ret (v := .tuple #[.agg #[.int .i64 0, .int .i64 0, .int .i64 0, .int .i64 0, .int .i64 0, .int .i64 0], .int .i64 1]) (by simp [results, Try.results36, go_sem, *]) rfl ⟨rfl, by (repeat (first | with_reducible exact Below.refl _ _ | with_reducible apply below_alloc | with_reducible apply below_drew1 | with_reducible assumption | (with_reducible refine Keep.below (by assumption)) | (with_reducible refine bel ?_ (by assumption)) | ((with_reducible refine below_set ?_ ?_); rotate_left; (focus (first | assumption | omega | (simp; done) | (simp; omega))))))⟩
theorem det_facts {a b c d e f : Int} (h : fineB a b c d e f = true) (D : Int) (hD : a * d - b * c = D) : IntKind.i64.wrap (a * d) = a * d ∧ IntKind.i64.wrap (b * c) = b * c ∧ IntKind.i64.wrap (a * d - b * c) = D ∧ -562949953421312 ≤ D ∧ D ≤ 562949953421312 := by
  obtain ⟨⟨a1, a2, b1, b2, c1, c2⟩, d1, d2, e1, e2, f1, f2⟩ := fine_bd h
  obtain ⟨q1, q2⟩ := mul_bd a1 a2 d1 d2 (by omega) (by omega)
  obtain ⟨q3, q4⟩ := mul_bd b1 b2 c1 c2 (by omega) (by omega)
  simp at q1 q2 q3 q4
  refine ⟨IntWalk.i64_in _ (by omega), IntWalk.i64_in _ (by omega), ?_, by omega, by omega⟩
  rw [IntWalk.i64_in _ (by omega), hD]
set_option maxHeartbeats 1000000 in
theorem back_zero (a b c d e f : Int) (w : World) (h : fineB a b c d e f = true) (hD : a * d - b * c = 0) :
    Calls Try.prog 36 #[.agg #[.int .i64 a, .int .i64 b, .int .i64 c, .int .i64 d, .int .i64 e, .int .i64 f]] w fun r w' => r = .returned (.tuple #[.agg #[.int .i64 0, .int .i64 0, .int .i64 0, .int .i64 0, .int .i64 0, .int .i64 0], .int .i64 31]) ∧ Below w.heap.size w w' := by
  obtain ⟨q1, q2, q3, q4, q5⟩ := det_facts h 0 hD
  clear hD
  go_enter Try.func36, Try.ntmps36
  go_wp2_with (go_at_call 18; refine (fine_any _ _ _ _ _ _ _).mono ?_; rintro e w1 ⟨rfl, hb⟩; (try replace hb := undrew hb); obtain ⟨hc, hf⟩ := ch hb; have hz := hb.size; (try simp only [World.size_alloc, World.size_setCell, World.size_drew] at hz); have zw0 : w.heap.size < w1.heap.size := (by omega); have zw1 : w.heap.size + 1 < w1.heap.size := (by omega))
  exact bodyPost_ret (v := .tuple #[.agg #[.int .i64 0, .int .i64 0, .int .i64 0, .int .i64 0, .int .i64 0, .int .i64 0], .int .i64 31]) (by simp [results, Try.results36, go_sem, *]) rfl ⟨rfl, by (repeat (first | with_reducible exact Below.refl _ _ | with_reducible apply below_alloc | with_reducible apply below_drew1 | with_reducible assumption | (with_reducible refine Keep.below (by assumption)) | (with_reducible refine bel ?_ (by assumption)) | ((with_reducible refine below_set ?_ ?_); rotate_left; (focus (first | assumption | omega | (simp; done) | (simp; omega))))))⟩
theorem near_is (n p : Int) (w : World) (h1 : -4611686018427387904 ≤ n) (h2 : n ≤ 4611686018427387904) (hp : nearF n 65536 = p) : Calls Try.prog 52 #[.int .i64 n, .int .i64 65536] w fun e w' => e = .returned (.int .i64 p) ∧ Below w.heap.size w w' := hp ▸ near_any n 65536 w h1 h2 (by omega) (by omega) (by omega)
theorem part_is (n k p : Int) (g : Nat) (w : World) (hg : w.heap[g]? = some (.cells #[.int .i64 k] 3 (0, 0))) (h1 : -16777216 ≤ n) (h2 : n ≤ 16777216) (hk : ¬ k = 0) (k1 : -562949953421312 ≤ k) (k2 : k ≤ 562949953421312) (hp : nearF (n * 4294967296) k = p) :
    Calls Try.prog 60 #[.int .i64 n, .pointer (some ⟨g, 0, none⟩)] w fun e w' => e = .returned (.int .i64 p) ∧ Below w.heap.size w w' := hp ▸ part_any n k g w hg h1 h2 hk k1 k2

set_option maxRecDepth 10000 in
set_option maxHeartbeats 8000000 in
theorem back_walk (a b c d e f D pa pb pc pd ex ey x1 x2 x3 x4 x5 x6 x7 : Int) (w : World) (h : fineB a b c d e f = true) (hD : a * d - b * c = D) (hnz : ¬ D = 0)
    (hA : nearF (d * 4294967296) D = pa) (hB : nearF (-b * 4294967296) D = pb) (hC : nearF (-c * 4294967296) D = pc) (hDd : nearF (a * 4294967296) D = pd)
    (hno : fineB pa pb pc pd 0 0 = false → (⟨x1, x2, x3, x4, x5, x6⟩ : M6) = .zero ∧ x7 = 30)
    (hyes : fineB pa pb pc pd 0 0 = true → nearF (pa * e + pb * f) 65536 = ex ∧ nearF (pc * e + pd * f) 65536 = ey ∧ ∀ W : World, Calls Try.prog 51 #[.agg #[.int .i64 pa, .int .i64 pb, .int .i64 pc, .int .i64 pd, .int .i64 (-ex), .int .i64 (-ey)]] W fun r w' => r = .returned (.tuple #[.agg #[.int .i64 x1, .int .i64 x2, .int .i64 x3, .int .i64 x4, .int .i64 x5, .int .i64 x6], .int .i64 x7]) ∧ Below W.heap.size W w') :
    Calls Try.prog 36 #[.agg #[.int .i64 a, .int .i64 b, .int .i64 c, .int .i64 d, .int .i64 e, .int .i64 f]] w fun r w' => r = .returned (.tuple #[.agg #[.int .i64 x1, .int .i64 x2, .int .i64 x3, .int .i64 x4, .int .i64 x5, .int .i64 x6], .int .i64 x7]) ∧ Below w.heap.size w w' := by
  obtain ⟨q1, q2, q3, q4, q5⟩ := det_facts h D hD
  obtain ⟨⟨a1, a2, b1, b2, c1, c2⟩, d1, d2, e1, e2, f1, f2⟩ := fine_bd h
  have HA := Lib.hid hA
  have HB := Lib.hid hB
  have HC := Lib.hid hC
  have HD := Lib.hid hDd
  have HN := Lib.hid hno
  have HY := Lib.hid hyes
  clear hD hA hB hC hDd hno hyes
  have wb : IntKind.i64.wrap (-b) = -b := IntWalk.i64_in _ (by omega)
  have wc : IntKind.i64.wrap (-c) = -c := IntWalk.i64_in _ (by omega)
  have m1 : IntKind.i64.wrap (a * 4294967296) = a * 4294967296 := IntWalk.i64_in _ (by omega)
  have m2 : IntKind.i64.wrap (-b * 4294967296) = -b * 4294967296 := IntWalk.i64_in _ (by omega)
  have m3 : IntKind.i64.wrap (-c * 4294967296) = -c * 4294967296 := IntWalk.i64_in _ (by omega)
  have m4 : IntKind.i64.wrap (d * 4294967296) = d * 4294967296 := IntWalk.i64_in _ (by omega)
  go_enter Try.func36, Try.ntmps36
  go_wp2_with (go_at_call 18; refine (fine_any _ _ _ _ _ _ _).mono ?_; rintro e w1 ⟨rfl, hb⟩; (try replace hb := undrew hb); obtain ⟨hc, hf⟩ := ch hb; have hz := hb.size; (try simp only [World.size_alloc, World.size_setCell, World.size_drew] at hz); have zw0 : w.heap.size < w1.heap.size := (by omega); have zw1 : w.heap.size + 1 < w1.heap.size := (by omega))
  have hm : w1.heap[w.heap.size]? = some (.cells #[.int .i64 a, .int .i64 b, .int .i64 c, .int .i64 d, .int .i64 e, .int .i64 f] 37 (0, 0)) := (hb.block _ (by (try simp only [World.size_alloc]); omega)).trans ((heap_alloc_old _ _ (by simp)).trans (heap_alloc_new w _))
  have hr : w1.heap[w.heap.size + 1]? = some (.cells #[.int .i64 0, .int .i64 0, .int .i64 0, .int .i64 0, .int .i64 0, .int .i64 0] 37 (0, 0)) := (hb.block _ (by (try simp only [World.size_alloc]); omega)).trans (heap_new_at (by simp))
  have hBW : Below w.heap.size w w1 := bel (below_alloc (below_alloc (Below.refl _ _) _) _) hb
  have hby : (w1.alloc (.cells #[.int .i64 D] 3)).heap[w1.heap.size]? = some (.cells #[.int .i64 D] 3 (0, 0)) := heap_alloc_new w1 _
  replace hm : (w1.alloc (.cells #[.int .i64 D] 3)).heap[w.heap.size]? = some (.cells #[.int .i64 a, .int .i64 b, .int .i64 c, .int .i64 d, .int .i64 e, .int .i64 f] 37 (0, 0)) := (heap_alloc_old _ _ (heap_lt hm)).trans hm
  replace hr : (w1.alloc (.cells #[.int .i64 D] 3)).heap[w.heap.size + 1]? = some (.cells #[.int .i64 0, .int .i64 0, .int .i64 0, .int .i64 0, .int .i64 0, .int .i64 0] 37 (0, 0)) := (heap_alloc_old _ _ (heap_lt hr)).trans hr
  replace hBW := below_alloc hBW (.cells #[.int .i64 D] 3)
  clear hb hc hf
  refine drawn_st (w := (w1.alloc (.cells #[.int .i64 D] 3))) ([Lf.v (.func (.func 60) #[] #[.pointer (some ⟨w1.heap.size, 0, none⟩)]), Lf.v (.pointer (some ⟨w.heap.size, 3, none⟩)), Lf.v (.int .i64 d), Lf.v (.int .i64 pa), Lf.v (.func (.func 60) #[] #[.pointer (some ⟨w1.heap.size, 0, none⟩)]), Lf.v (.pointer (some ⟨w.heap.size, 1, none⟩)), Lf.v (.int .i64 b), Lf.v (.int .i64 (-b)), Lf.v (.int .i64 pb), Lf.v (.func (.func 60) #[] #[.pointer (some ⟨w1.heap.size, 0, none⟩)]), Lf.v (.pointer (some ⟨w.heap.size, 2, none⟩)), Lf.v (.int .i64 c), Lf.v (.int .i64 (-c)), Lf.v (.int .i64 pc), Lf.v (.func (.func 60) #[] #[.pointer (some ⟨w1.heap.size, 0, none⟩)]), Lf.v (.pointer (some ⟨w.heap.size, 0, none⟩)), Lf.v (.int .i64 a), Lf.v (.int .i64 pd), Lf.v (.agg #[.int .i64 pa, .int .i64 pb, .int .i64 pc, .int .i64 pd, .int .i64 0, .int .i64 0]), Lf.nw 37 #[.int .i64 0, .int .i64 0, .int .i64 0, .int .i64 0, .int .i64 0, .int .i64 0] #[.int .i64 pa, .int .i64 pb, .int .i64 pc, .int .i64 pd, .int .i64 0, .int .i64 0] 20, Lf.st 19] : List Lf) (by kernel_rfl) (by kernel_rfl) (by kernel_rfl) (by kernel_rfl) ?_ ?_ ?_ ?_
  · intro i_ v_ hi a_ W hs ho hB
    have hl := (List.getElem?_eq_some_iff.1 hi).1
    rcases (show i_ = 0 ∨ i_ = 1 ∨ i_ = 2 ∨ i_ = 3 ∨ i_ = 4 ∨ i_ = 5 ∨ i_ = 6 ∨ i_ = 7 ∨ i_ = 8 ∨ i_ = 9 ∨ i_ = 10 ∨ i_ = 11 ∨ i_ = 12 ∨ i_ = 13 ∨ i_ = 14 ∨ i_ = 15 ∨ i_ = 16 ∨ i_ = 17 ∨ i_ = 18 ∨ i_ = 19 ∨ i_ = 20 by simp at hl; omega) with rfl | rfl | rfl | rfl | rfl | rfl | rfl | rfl | rfl | rfl | rfl | rfl | rfl | rfl | rfl | rfl | rfl | rfl | rfl | rfl | rfl
    · obtain rfl : (.func (.func 60) #[] #[.pointer (some ⟨w1.heap.size, 0, none⟩)]) = v_ := Lf.v.inj (Option.some.inj (show some (Lf.v (.func (.func 60) #[] #[.pointer (some ⟨w1.heap.size, 0, none⟩)])) = some (Lf.v v_) from hi))
      clear hi hl
      have e5 : a_.tmps[5]? = some (.func (.func 60) #[] #[.pointer (some ⟨w1.heap.size, 0, none⟩)]) := (ho 5 (by kernel_rfl)).trans rfl
      refine ⟨_, rfl, fun KR hKR => ?_⟩
      rw [if_pos (show Region.wanted _ _ = true from rfl)]
      clear hs ho
      go_simp
      exact hKR _ (Below.refl _ _)
    · obtain rfl : (.pointer (some ⟨w.heap.size, 3, none⟩)) = v_ := Lf.v.inj (Option.some.inj (show some (Lf.v (.pointer (some ⟨w.heap.size, 3, none⟩))) = some (Lf.v v_) from hi))
      clear hi hl
      have e1 : a_.tmps[1]? = some (.pointer (some ⟨w.heap.size, 0, none⟩)) := (ho 1 (by kernel_rfl)).trans rfl
      refine ⟨_, rfl, fun KR hKR => ?_⟩
      rw [if_pos (show Region.wanted _ _ = true from rfl)]
      clear hs ho
      go_simp
      exact hKR _ (Below.refl _ _)
    · obtain rfl : (.int .i64 d) = v_ := Lf.v.inj (Option.some.inj (show some (Lf.v (.int .i64 d)) = some (Lf.v v_) from hi))
      clear hi hl
      have e29 : a_.tmps[29]? = some (.pointer (some ⟨w.heap.size, 3, none⟩)) := hs 1 (by kernel_rfl) _ rfl 29 rfl
      refine ⟨_, rfl, fun KR hKR => ?_⟩
      rw [if_pos (show Region.wanted _ _ = true from rfl)]
      have c := cell_of_heap ((hB.block _ (heap_lt hm)).trans hm) (j := 3) (v := .int .i64 d) rfl
      clear hs ho
      go_simp
      exact hKR _ (Below.refl _ _)
    · obtain rfl : (.int .i64 pa) = v_ := Lf.v.inj (Option.some.inj (show some (Lf.v (.int .i64 pa)) = some (Lf.v v_) from hi))
      clear hi hl
      have e28 : a_.tmps[28]? = some (.func (.func 60) #[] #[.pointer (some ⟨w1.heap.size, 0, none⟩)]) := hs 0 (by kernel_rfl) _ rfl 28 rfl
      have e30 : a_.tmps[30]? = some (.int .i64 d) := hs 2 (by kernel_rfl) _ rfl 30 rfl
      refine ⟨_, rfl, fun KR hKR => ?_⟩
      rw [if_pos (show Region.wanted _ _ = true from rfl)]
      clear hs ho
      (go_simp; (go_at_call 60; refine (part_is (d) D _ w1.heap.size _ ((hB.block _ (heap_lt hby)).trans hby) (by omega) (by omega) hnz q4 q5 HA.out).mono ?_; rintro e wz ⟨rfl, hb⟩); exact hKR _ hb)
    · obtain rfl : (.func (.func 60) #[] #[.pointer (some ⟨w1.heap.size, 0, none⟩)]) = v_ := Lf.v.inj (Option.some.inj (show some (Lf.v (.func (.func 60) #[] #[.pointer (some ⟨w1.heap.size, 0, none⟩)])) = some (Lf.v v_) from hi))
      clear hi hl
      have e5 : a_.tmps[5]? = some (.func (.func 60) #[] #[.pointer (some ⟨w1.heap.size, 0, none⟩)]) := (ho 5 (by kernel_rfl)).trans rfl
      refine ⟨_, rfl, fun KR hKR => ?_⟩
      rw [if_pos (show Region.wanted _ _ = true from rfl)]
      clear hs ho
      go_simp
      exact hKR _ (Below.refl _ _)
    · obtain rfl : (.pointer (some ⟨w.heap.size, 1, none⟩)) = v_ := Lf.v.inj (Option.some.inj (show some (Lf.v (.pointer (some ⟨w.heap.size, 1, none⟩))) = some (Lf.v v_) from hi))
      clear hi hl
      have e1 : a_.tmps[1]? = some (.pointer (some ⟨w.heap.size, 0, none⟩)) := (ho 1 (by kernel_rfl)).trans rfl
      refine ⟨_, rfl, fun KR hKR => ?_⟩
      rw [if_pos (show Region.wanted _ _ = true from rfl)]
      clear hs ho
      go_simp
      exact hKR _ (Below.refl _ _)
    · obtain rfl : (.int .i64 b) = v_ := Lf.v.inj (Option.some.inj (show some (Lf.v (.int .i64 b)) = some (Lf.v v_) from hi))
      clear hi hl
      have e33 : a_.tmps[33]? = some (.pointer (some ⟨w.heap.size, 1, none⟩)) := hs 5 (by kernel_rfl) _ rfl 33 rfl
      refine ⟨_, rfl, fun KR hKR => ?_⟩
      rw [if_pos (show Region.wanted _ _ = true from rfl)]
      have c := cell_of_heap ((hB.block _ (heap_lt hm)).trans hm) (j := 1) (v := .int .i64 b) rfl
      clear hs ho
      go_simp
      exact hKR _ (Below.refl _ _)
    · obtain rfl : (.int .i64 (-b)) = v_ := Lf.v.inj (Option.some.inj (show some (Lf.v (.int .i64 (-b))) = some (Lf.v v_) from hi))
      clear hi hl
      have e34 : a_.tmps[34]? = some (.int .i64 b) := hs 6 (by kernel_rfl) _ rfl 34 rfl
      refine ⟨_, rfl, fun KR hKR => ?_⟩
      rw [if_pos (show Region.wanted _ _ = true from rfl)]
      clear hs ho
      go_simp
      exact hKR _ (Below.refl _ _)
    · obtain rfl : (.int .i64 pb) = v_ := Lf.v.inj (Option.some.inj (show some (Lf.v (.int .i64 pb)) = some (Lf.v v_) from hi))
      clear hi hl
      have e32 : a_.tmps[32]? = some (.func (.func 60) #[] #[.pointer (some ⟨w1.heap.size, 0, none⟩)]) := hs 4 (by kernel_rfl) _ rfl 32 rfl
      have e35 : a_.tmps[35]? = some (.int .i64 (-b)) := hs 7 (by kernel_rfl) _ rfl 35 rfl
      refine ⟨_, rfl, fun KR hKR => ?_⟩
      rw [if_pos (show Region.wanted _ _ = true from rfl)]
      clear hs ho
      (go_simp; (go_at_call 60; refine (part_is (-b) D _ w1.heap.size _ ((hB.block _ (heap_lt hby)).trans hby) (by omega) (by omega) hnz q4 q5 HB.out).mono ?_; rintro e wz ⟨rfl, hb⟩); exact hKR _ hb)
    · obtain rfl : (.func (.func 60) #[] #[.pointer (some ⟨w1.heap.size, 0, none⟩)]) = v_ := Lf.v.inj (Option.some.inj (show some (Lf.v (.func (.func 60) #[] #[.pointer (some ⟨w1.heap.size, 0, none⟩)])) = some (Lf.v v_) from hi))
      clear hi hl
      have e5 : a_.tmps[5]? = some (.func (.func 60) #[] #[.pointer (some ⟨w1.heap.size, 0, none⟩)]) := (ho 5 (by kernel_rfl)).trans rfl
      refine ⟨_, rfl, fun KR hKR => ?_⟩
      rw [if_pos (show Region.wanted _ _ = true from rfl)]
      clear hs ho
      go_simp
      exact hKR _ (Below.refl _ _)
    · obtain rfl : (.pointer (some ⟨w.heap.size, 2, none⟩)) = v_ := Lf.v.inj (Option.some.inj (show some (Lf.v (.pointer (some ⟨w.heap.size, 2, none⟩))) = some (Lf.v v_) from hi))
      clear hi hl
      have e1 : a_.tmps[1]? = some (.pointer (some ⟨w.heap.size, 0, none⟩)) := (ho 1 (by kernel_rfl)).trans rfl
      refine ⟨_, rfl, fun KR hKR => ?_⟩
      rw [if_pos (show Region.wanted _ _ = true from rfl)]
      clear hs ho
      go_simp
      exact hKR _ (Below.refl _ _)
    · obtain rfl : (.int .i64 c) = v_ := Lf.v.inj (Option.some.inj (show some (Lf.v (.int .i64 c)) = some (Lf.v v_) from hi))
      clear hi hl
      have e38 : a_.tmps[38]? = some (.pointer (some ⟨w.heap.size, 2, none⟩)) := hs 10 (by kernel_rfl) _ rfl 38 rfl
      refine ⟨_, rfl, fun KR hKR => ?_⟩
      rw [if_pos (show Region.wanted _ _ = true from rfl)]
      have c := cell_of_heap ((hB.block _ (heap_lt hm)).trans hm) (j := 2) (v := .int .i64 c) rfl
      clear hs ho
      go_simp
      exact hKR _ (Below.refl _ _)
    · obtain rfl : (.int .i64 (-c)) = v_ := Lf.v.inj (Option.some.inj (show some (Lf.v (.int .i64 (-c))) = some (Lf.v v_) from hi))
      clear hi hl
      have e39 : a_.tmps[39]? = some (.int .i64 c) := hs 11 (by kernel_rfl) _ rfl 39 rfl
      refine ⟨_, rfl, fun KR hKR => ?_⟩
      rw [if_pos (show Region.wanted _ _ = true from rfl)]
      clear hs ho
      go_simp
      exact hKR _ (Below.refl _ _)
    · obtain rfl : (.int .i64 pc) = v_ := Lf.v.inj (Option.some.inj (show some (Lf.v (.int .i64 pc)) = some (Lf.v v_) from hi))
      clear hi hl
      have e37 : a_.tmps[37]? = some (.func (.func 60) #[] #[.pointer (some ⟨w1.heap.size, 0, none⟩)]) := hs 9 (by kernel_rfl) _ rfl 37 rfl
      have e40 : a_.tmps[40]? = some (.int .i64 (-c)) := hs 12 (by kernel_rfl) _ rfl 40 rfl
      refine ⟨_, rfl, fun KR hKR => ?_⟩
      rw [if_pos (show Region.wanted _ _ = true from rfl)]
      clear hs ho
      (go_simp; (go_at_call 60; refine (part_is (-c) D _ w1.heap.size _ ((hB.block _ (heap_lt hby)).trans hby) (by omega) (by omega) hnz q4 q5 HC.out).mono ?_; rintro e wz ⟨rfl, hb⟩); exact hKR _ hb)
    · obtain rfl : (.func (.func 60) #[] #[.pointer (some ⟨w1.heap.size, 0, none⟩)]) = v_ := Lf.v.inj (Option.some.inj (show some (Lf.v (.func (.func 60) #[] #[.pointer (some ⟨w1.heap.size, 0, none⟩)])) = some (Lf.v v_) from hi))
      clear hi hl
      have e5 : a_.tmps[5]? = some (.func (.func 60) #[] #[.pointer (some ⟨w1.heap.size, 0, none⟩)]) := (ho 5 (by kernel_rfl)).trans rfl
      refine ⟨_, rfl, fun KR hKR => ?_⟩
      rw [if_pos (show Region.wanted _ _ = true from rfl)]
      clear hs ho
      go_simp
      exact hKR _ (Below.refl _ _)
    · obtain rfl : (.pointer (some ⟨w.heap.size, 0, none⟩)) = v_ := Lf.v.inj (Option.some.inj (show some (Lf.v (.pointer (some ⟨w.heap.size, 0, none⟩))) = some (Lf.v v_) from hi))
      clear hi hl
      have e1 : a_.tmps[1]? = some (.pointer (some ⟨w.heap.size, 0, none⟩)) := (ho 1 (by kernel_rfl)).trans rfl
      refine ⟨_, rfl, fun KR hKR => ?_⟩
      rw [if_pos (show Region.wanted _ _ = true from rfl)]
      clear hs ho
      go_simp
      exact hKR _ (Below.refl _ _)
    · obtain rfl : (.int .i64 a) = v_ := Lf.v.inj (Option.some.inj (show some (Lf.v (.int .i64 a)) = some (Lf.v v_) from hi))
      clear hi hl
      have e43 : a_.tmps[43]? = some (.pointer (some ⟨w.heap.size, 0, none⟩)) := hs 15 (by kernel_rfl) _ rfl 43 rfl
      refine ⟨_, rfl, fun KR hKR => ?_⟩
      rw [if_pos (show Region.wanted _ _ = true from rfl)]
      have c := cell_of_heap ((hB.block _ (heap_lt hm)).trans hm) (j := 0) (v := .int .i64 a) rfl
      clear hs ho
      go_simp
      exact hKR _ (Below.refl _ _)
    · obtain rfl : (.int .i64 pd) = v_ := Lf.v.inj (Option.some.inj (show some (Lf.v (.int .i64 pd)) = some (Lf.v v_) from hi))
      clear hi hl
      have e42 : a_.tmps[42]? = some (.func (.func 60) #[] #[.pointer (some ⟨w1.heap.size, 0, none⟩)]) := hs 14 (by kernel_rfl) _ rfl 42 rfl
      have e44 : a_.tmps[44]? = some (.int .i64 a) := hs 16 (by kernel_rfl) _ rfl 44 rfl
      refine ⟨_, rfl, fun KR hKR => ?_⟩
      rw [if_pos (show Region.wanted _ _ = true from rfl)]
      clear hs ho
      (go_simp; (go_at_call 60; refine (part_is (a) D _ w1.heap.size _ ((hB.block _ (heap_lt hby)).trans hby) (by omega) (by omega) hnz q4 q5 HD.out).mono ?_; rintro e wz ⟨rfl, hb⟩); exact hKR _ hb)
    · obtain rfl : (.agg #[.int .i64 pa, .int .i64 pb, .int .i64 pc, .int .i64 pd, .int .i64 0, .int .i64 0]) = v_ := Lf.v.inj (Option.some.inj (show some (Lf.v (.agg #[.int .i64 pa, .int .i64 pb, .int .i64 pc, .int .i64 pd, .int .i64 0, .int .i64 0])) = some (Lf.v v_) from hi))
      clear hi hl
      have e31 : a_.tmps[31]? = some (.int .i64 pa) := hs 3 (by kernel_rfl) _ rfl 31 rfl
      have e36 : a_.tmps[36]? = some (.int .i64 pb) := hs 8 (by kernel_rfl) _ rfl 36 rfl
      have e41 : a_.tmps[41]? = some (.int .i64 pc) := hs 13 (by kernel_rfl) _ rfl 41 rfl
      have e45 : a_.tmps[45]? = some (.int .i64 pd) := hs 17 (by kernel_rfl) _ rfl 45 rfl
      refine ⟨_, rfl, fun KR hKR => ?_⟩
      rw [if_pos (show Region.wanted _ _ = true from rfl)]
      clear hs ho
      go_simp
      exact hKR _ (Below.refl _ _)
    · exact Lf.noConfusion (Option.some.inj (show some (Lf.nw 37 #[.int .i64 0, .int .i64 0, .int .i64 0, .int .i64 0, .int .i64 0, .int .i64 0] #[.int .i64 pa, .int .i64 pb, .int .i64 pc, .int .i64 pd, .int .i64 0, .int .i64 0] 20) = some (Lf.v v_) from hi))
    · exact Lf.noConfusion (Option.some.inj (show some (Lf.st 19) = some (Lf.v v_) from hi))
  · intro i_ T_ Z_ S_ k_ hi a_ W
    have hl := (List.getElem?_eq_some_iff.1 hi).1
    rcases (show i_ = 0 ∨ i_ = 1 ∨ i_ = 2 ∨ i_ = 3 ∨ i_ = 4 ∨ i_ = 5 ∨ i_ = 6 ∨ i_ = 7 ∨ i_ = 8 ∨ i_ = 9 ∨ i_ = 10 ∨ i_ = 11 ∨ i_ = 12 ∨ i_ = 13 ∨ i_ = 14 ∨ i_ = 15 ∨ i_ = 16 ∨ i_ = 17 ∨ i_ = 18 ∨ i_ = 19 ∨ i_ = 20 by simp at hl; omega) with rfl | rfl | rfl | rfl | rfl | rfl | rfl | rfl | rfl | rfl | rfl | rfl | rfl | rfl | rfl | rfl | rfl | rfl | rfl | rfl | rfl
    · exact Lf.noConfusion (Option.some.inj (show some (Lf.v (.func (.func 60) #[] #[.pointer (some ⟨w1.heap.size, 0, none⟩)])) = some (Lf.nw T_ Z_ S_ k_) from hi))
    · exact Lf.noConfusion (Option.some.inj (show some (Lf.v (.pointer (some ⟨w.heap.size, 3, none⟩))) = some (Lf.nw T_ Z_ S_ k_) from hi))
    · exact Lf.noConfusion (Option.some.inj (show some (Lf.v (.int .i64 d)) = some (Lf.nw T_ Z_ S_ k_) from hi))
    · exact Lf.noConfusion (Option.some.inj (show some (Lf.v (.int .i64 pa)) = some (Lf.nw T_ Z_ S_ k_) from hi))
    · exact Lf.noConfusion (Option.some.inj (show some (Lf.v (.func (.func 60) #[] #[.pointer (some ⟨w1.heap.size, 0, none⟩)])) = some (Lf.nw T_ Z_ S_ k_) from hi))
    · exact Lf.noConfusion (Option.some.inj (show some (Lf.v (.pointer (some ⟨w.heap.size, 1, none⟩))) = some (Lf.nw T_ Z_ S_ k_) from hi))
    · exact Lf.noConfusion (Option.some.inj (show some (Lf.v (.int .i64 b)) = some (Lf.nw T_ Z_ S_ k_) from hi))
    · exact Lf.noConfusion (Option.some.inj (show some (Lf.v (.int .i64 (-b))) = some (Lf.nw T_ Z_ S_ k_) from hi))
    · exact Lf.noConfusion (Option.some.inj (show some (Lf.v (.int .i64 pb)) = some (Lf.nw T_ Z_ S_ k_) from hi))
    · exact Lf.noConfusion (Option.some.inj (show some (Lf.v (.func (.func 60) #[] #[.pointer (some ⟨w1.heap.size, 0, none⟩)])) = some (Lf.nw T_ Z_ S_ k_) from hi))
    · exact Lf.noConfusion (Option.some.inj (show some (Lf.v (.pointer (some ⟨w.heap.size, 2, none⟩))) = some (Lf.nw T_ Z_ S_ k_) from hi))
    · exact Lf.noConfusion (Option.some.inj (show some (Lf.v (.int .i64 c)) = some (Lf.nw T_ Z_ S_ k_) from hi))
    · exact Lf.noConfusion (Option.some.inj (show some (Lf.v (.int .i64 (-c))) = some (Lf.nw T_ Z_ S_ k_) from hi))
    · exact Lf.noConfusion (Option.some.inj (show some (Lf.v (.int .i64 pc)) = some (Lf.nw T_ Z_ S_ k_) from hi))
    · exact Lf.noConfusion (Option.some.inj (show some (Lf.v (.func (.func 60) #[] #[.pointer (some ⟨w1.heap.size, 0, none⟩)])) = some (Lf.nw T_ Z_ S_ k_) from hi))
    · exact Lf.noConfusion (Option.some.inj (show some (Lf.v (.pointer (some ⟨w.heap.size, 0, none⟩))) = some (Lf.nw T_ Z_ S_ k_) from hi))
    · exact Lf.noConfusion (Option.some.inj (show some (Lf.v (.int .i64 a)) = some (Lf.nw T_ Z_ S_ k_) from hi))
    · exact Lf.noConfusion (Option.some.inj (show some (Lf.v (.int .i64 pd)) = some (Lf.nw T_ Z_ S_ k_) from hi))
    · exact Lf.noConfusion (Option.some.inj (show some (Lf.v (.agg #[.int .i64 pa, .int .i64 pb, .int .i64 pc, .int .i64 pd, .int .i64 0, .int .i64 0])) = some (Lf.nw T_ Z_ S_ k_) from hi))
    · have h := Option.some.inj (show some (Lf.nw 37 #[.int .i64 0, .int .i64 0, .int .i64 0, .int .i64 0, .int .i64 0, .int .i64 0] #[.int .i64 pa, .int .i64 pb, .int .i64 pc, .int .i64 pd, .int .i64 0, .int .i64 0] 20) = some (Lf.nw T_ Z_ S_ k_) from hi)
      injection h with q1 q2 q3 q4
      subst q1 q2 q3 q4
      clear hi hl
      refine ⟨_, rfl, fun KR hKR => ?_⟩
      rw [if_pos (show Region.wanted _ _ = true from rfl)]
      go_simp
      exact hKR
    · exact Lf.noConfusion (Option.some.inj (show some (Lf.st 19) = some (Lf.nw T_ Z_ S_ k_) from hi))
  · intro i_ m_ T_ Z_ S_ hi hm_ a_ W g_ hp_ hg hs
    have hl := (List.getElem?_eq_some_iff.1 hi).1
    rcases (show i_ = 0 ∨ i_ = 1 ∨ i_ = 2 ∨ i_ = 3 ∨ i_ = 4 ∨ i_ = 5 ∨ i_ = 6 ∨ i_ = 7 ∨ i_ = 8 ∨ i_ = 9 ∨ i_ = 10 ∨ i_ = 11 ∨ i_ = 12 ∨ i_ = 13 ∨ i_ = 14 ∨ i_ = 15 ∨ i_ = 16 ∨ i_ = 17 ∨ i_ = 18 ∨ i_ = 19 ∨ i_ = 20 by simp at hl; omega) with rfl | rfl | rfl | rfl | rfl | rfl | rfl | rfl | rfl | rfl | rfl | rfl | rfl | rfl | rfl | rfl | rfl | rfl | rfl | rfl | rfl
    · exact Lf.noConfusion (Option.some.inj (show some (Lf.v (.func (.func 60) #[] #[.pointer (some ⟨w1.heap.size, 0, none⟩)])) = some (Lf.st m_) from hi))
    · exact Lf.noConfusion (Option.some.inj (show some (Lf.v (.pointer (some ⟨w.heap.size, 3, none⟩))) = some (Lf.st m_) from hi))
    · exact Lf.noConfusion (Option.some.inj (show some (Lf.v (.int .i64 d)) = some (Lf.st m_) from hi))
    · exact Lf.noConfusion (Option.some.inj (show some (Lf.v (.int .i64 pa)) = some (Lf.st m_) from hi))
    · exact Lf.noConfusion (Option.some.inj (show some (Lf.v (.func (.func 60) #[] #[.pointer (some ⟨w1.heap.size, 0, none⟩)])) = some (Lf.st m_) from hi))
    · exact Lf.noConfusion (Option.some.inj (show some (Lf.v (.pointer (some ⟨w.heap.size, 1, none⟩))) = some (Lf.st m_) from hi))
    · exact Lf.noConfusion (Option.some.inj (show some (Lf.v (.int .i64 b)) = some (Lf.st m_) from hi))
    · exact Lf.noConfusion (Option.some.inj (show some (Lf.v (.int .i64 (-b))) = some (Lf.st m_) from hi))
    · exact Lf.noConfusion (Option.some.inj (show some (Lf.v (.int .i64 pb)) = some (Lf.st m_) from hi))
    · exact Lf.noConfusion (Option.some.inj (show some (Lf.v (.func (.func 60) #[] #[.pointer (some ⟨w1.heap.size, 0, none⟩)])) = some (Lf.st m_) from hi))
    · exact Lf.noConfusion (Option.some.inj (show some (Lf.v (.pointer (some ⟨w.heap.size, 2, none⟩))) = some (Lf.st m_) from hi))
    · exact Lf.noConfusion (Option.some.inj (show some (Lf.v (.int .i64 c)) = some (Lf.st m_) from hi))
    · exact Lf.noConfusion (Option.some.inj (show some (Lf.v (.int .i64 (-c))) = some (Lf.st m_) from hi))
    · exact Lf.noConfusion (Option.some.inj (show some (Lf.v (.int .i64 pc)) = some (Lf.st m_) from hi))
    · exact Lf.noConfusion (Option.some.inj (show some (Lf.v (.func (.func 60) #[] #[.pointer (some ⟨w1.heap.size, 0, none⟩)])) = some (Lf.st m_) from hi))
    · exact Lf.noConfusion (Option.some.inj (show some (Lf.v (.pointer (some ⟨w.heap.size, 0, none⟩))) = some (Lf.st m_) from hi))
    · exact Lf.noConfusion (Option.some.inj (show some (Lf.v (.int .i64 a)) = some (Lf.st m_) from hi))
    · exact Lf.noConfusion (Option.some.inj (show some (Lf.v (.int .i64 pd)) = some (Lf.st m_) from hi))
    · exact Lf.noConfusion (Option.some.inj (show some (Lf.v (.agg #[.int .i64 pa, .int .i64 pb, .int .i64 pc, .int .i64 pd, .int .i64 0, .int .i64 0])) = some (Lf.st m_) from hi))
    · exact Lf.noConfusion (Option.some.inj (show some (Lf.nw 37 #[.int .i64 0, .int .i64 0, .int .i64 0, .int .i64 0, .int .i64 0, .int .i64 0] #[.int .i64 pa, .int .i64 pb, .int .i64 pc, .int .i64 pd, .int .i64 0, .int .i64 0] 20) = some (Lf.st m_) from hi))
    · obtain rfl : 19 = m_ := Lf.st.inj (Option.some.inj (show some (Lf.st 19) = some (Lf.st m_) from hi))
      have h := Option.some.inj (show some (Lf.nw 37 #[.int .i64 0, .int .i64 0, .int .i64 0, .int .i64 0, .int .i64 0, .int .i64 0] #[.int .i64 pa, .int .i64 pb, .int .i64 pc, .int .i64 pd, .int .i64 0, .int .i64 0] 20) = some (Lf.nw T_ Z_ S_ _) from hm_)
      injection h with q1 q2 q3 q4
      subst q1 q2 q3
      clear hi hm_ hl q4
      have e6 := hp_ 6 rfl
      have e46 : a_.tmps[46]? = some (.agg #[.int .i64 pa, .int .i64 pb, .int .i64 pc, .int .i64 pd, .int .i64 0, .int .i64 0]) := hs 18 (by kernel_rfl) _ rfl 46 rfl
      refine ⟨_, rfl, fun KR hKR => ?_⟩
      rw [if_pos (show Region.wanted _ _ = true from rfl)]
      exact wp_store_whole 37 (.tmp 6) (.tmp 46) rfl g_ (#[.int .i64 pa, .int .i64 pb, .int .i64 pc, .int .i64 pd, .int .i64 0, .int .i64 0]) (#[.int .i64 0, .int .i64 0, .int .i64 0, .int .i64 0, .int .i64 0, .int .i64 0]) 37 (by simp [Act.eval, e6]) (by simp [Act.eval, e46]) hg rfl (by kernel_rfl) (by kernel_rfl) (fun w1 k1 k2 k3 k4 => hKR _ w1 k1 k2 k3 k4)
  · intro b_ vals_ W hall hI
    have hB := hI.bel
    have v0 : vals_ 0 = .func (.func 60) #[] #[.pointer (some ⟨w1.heap.size, 0, none⟩)] := hI.has 0 (Nat.le_of_ble_eq_true rfl) (hall 0 (Nat.le_of_ble_eq_true rfl))
    have v1 : vals_ 1 = .pointer (some ⟨w.heap.size, 3, none⟩) := hI.has 1 (Nat.le_of_ble_eq_true rfl) (hall 1 (Nat.le_of_ble_eq_true rfl))
    have v2 : vals_ 2 = .int .i64 d := hI.has 2 (Nat.le_of_ble_eq_true rfl) (hall 2 (Nat.le_of_ble_eq_true rfl))
    have v3 : vals_ 3 = .int .i64 pa := hI.has 3 (Nat.le_of_ble_eq_true rfl) (hall 3 (Nat.le_of_ble_eq_true rfl))
    have v4 : vals_ 4 = .func (.func 60) #[] #[.pointer (some ⟨w1.heap.size, 0, none⟩)] := hI.has 4 (Nat.le_of_ble_eq_true rfl) (hall 4 (Nat.le_of_ble_eq_true rfl))
    have v5 : vals_ 5 = .pointer (some ⟨w.heap.size, 1, none⟩) := hI.has 5 (Nat.le_of_ble_eq_true rfl) (hall 5 (Nat.le_of_ble_eq_true rfl))
    have v6 : vals_ 6 = .int .i64 b := hI.has 6 (Nat.le_of_ble_eq_true rfl) (hall 6 (Nat.le_of_ble_eq_true rfl))
    have v7 : vals_ 7 = .int .i64 (-b) := hI.has 7 (Nat.le_of_ble_eq_true rfl) (hall 7 (Nat.le_of_ble_eq_true rfl))
    have v8 : vals_ 8 = .int .i64 pb := hI.has 8 (Nat.le_of_ble_eq_true rfl) (hall 8 (Nat.le_of_ble_eq_true rfl))
    have v9 : vals_ 9 = .func (.func 60) #[] #[.pointer (some ⟨w1.heap.size, 0, none⟩)] := hI.has 9 (Nat.le_of_ble_eq_true rfl) (hall 9 (Nat.le_of_ble_eq_true rfl))
    have v10 : vals_ 10 = .pointer (some ⟨w.heap.size, 2, none⟩) := hI.has 10 (Nat.le_of_ble_eq_true rfl) (hall 10 (Nat.le_of_ble_eq_true rfl))
    have v11 : vals_ 11 = .int .i64 c := hI.has 11 (Nat.le_of_ble_eq_true rfl) (hall 11 (Nat.le_of_ble_eq_true rfl))
    have v12 : vals_ 12 = .int .i64 (-c) := hI.has 12 (Nat.le_of_ble_eq_true rfl) (hall 12 (Nat.le_of_ble_eq_true rfl))
    have v13 : vals_ 13 = .int .i64 pc := hI.has 13 (Nat.le_of_ble_eq_true rfl) (hall 13 (Nat.le_of_ble_eq_true rfl))
    have v14 : vals_ 14 = .func (.func 60) #[] #[.pointer (some ⟨w1.heap.size, 0, none⟩)] := hI.has 14 (Nat.le_of_ble_eq_true rfl) (hall 14 (Nat.le_of_ble_eq_true rfl))
    have v15 : vals_ 15 = .pointer (some ⟨w.heap.size, 0, none⟩) := hI.has 15 (Nat.le_of_ble_eq_true rfl) (hall 15 (Nat.le_of_ble_eq_true rfl))
    have v16 : vals_ 16 = .int .i64 a := hI.has 16 (Nat.le_of_ble_eq_true rfl) (hall 16 (Nat.le_of_ble_eq_true rfl))
    have v17 : vals_ 17 = .int .i64 pd := hI.has 17 (Nat.le_of_ble_eq_true rfl) (hall 17 (Nat.le_of_ble_eq_true rfl))
    have v18 : vals_ 18 = .agg #[.int .i64 pa, .int .i64 pb, .int .i64 pc, .int .i64 pd, .int .i64 0, .int .i64 0] := hI.has 18 (Nat.le_of_ble_eq_true rfl) (hall 18 (Nat.le_of_ble_eq_true rfl))
    obtain ⟨g19, v19, hg19, hh19⟩ : ∃ g, vals_ 19 = .pointer (some ⟨g, 0, none⟩) ∧ (w1.alloc (.cells #[.int .i64 D] 3)).heap.size ≤ g ∧ W.heap[g]? = some (.cells #[.int .i64 pa, .int .i64 pb, .int .i64 pc, .int .i64 pd, .int .i64 0, .int .i64 0] 37 (0, 0)) := by
      have h := (show ∃ g, vals_ 19 = .pointer (some ⟨g, 0, none⟩) ∧ (w1.alloc (.cells #[.int .i64 D] 3)).heap.size ≤ g ∧ W.heap[g]? = some (.cells (if b_ 20 = true then #[.int .i64 pa, .int .i64 pb, .int .i64 pc, .int .i64 pd, .int .i64 0, .int .i64 0] else #[.int .i64 0, .int .i64 0, .int .i64 0, .int .i64 0, .int .i64 0, .int .i64 0]) 37 (0, 0)) from hI.has 19 (Nat.le_of_ble_eq_true rfl) (hall 19 (Nat.le_of_ble_eq_true rfl)))
      rw [if_pos (hall 20 (Nat.le_of_ble_eq_true rfl))] at h
      exact h
    simp only [List.length_cons, List.length_nil, Nat.zero_add, Nat.reduceAdd, List.size_toArray, slots, if_true, dstOf, List.getElem?_toArray, List.getElem?_cons_zero, List.getElem?_cons_succ, Option.bind_some, Act.put, List.setIfInBounds_toArray, List.set_cons_zero, List.set_cons_succ, v0, v1, v2, v3, v4, v5, v6, v7, v8, v9, v10, v11, v12, v13, v14, v15, v16, v17, v18, v19]
    clear hI hall v0 v1 v2 v3 v4 v5 v6 v7 v8 v9 v10 v11 v12 v13 v14 v15 v16 v17 v18 v19
    change wpAny _ _ _ _ 0 _ _ _
    refine wpAny_done (by kernel_rfl) ?_ _
    obtain ⟨g, rfl⟩ : ∃ g, g = g19 := ⟨_, rfl⟩
    have hne0 : w.heap.size < (w1.alloc (.cells #[.int .i64 D] 3)).heap.size := heap_lt hm
    have hne1 : w.heap.size + 1 < (w1.alloc (.cells #[.int .i64 D] 3)).heap.size := heap_lt hr
    have hmW := (hB.block _ (heap_lt hm)).trans hm
    have hrW := (hB.block _ (heap_lt hr)).trans hr
    have hBW := bel hBW hB
    obtain ⟨wq, rfl⟩ : ∃ wq, wq = W := ⟨_, rfl⟩
    have g1 : ¬ g = w.heap.size := by omega
    have g2 : ¬ g = w.heap.size + 1 := by omega
    have g3 : ¬ w.heap.size = g := by omega
    have g4 : ¬ w.heap.size + 1 = g := by omega
    clear hB
    have c4 := cell_of_heap hmW (j := 4) rfl
    have c5 := cell_of_heap hmW (j := 5) rfl
    have p0 := cell_of_heap hh19 (j := 0) rfl
    have r0 := cell_of_heap hrW (j := 0) rfl
    have z0_ := frozen_of_heap hrW (j := 0)
    have p1 := cell_of_heap hh19 (j := 1) rfl
    have r1 := cell_of_heap hrW (j := 1) rfl
    have z1_ := frozen_of_heap hrW (j := 1)
    have p2 := cell_of_heap hh19 (j := 2) rfl
    have r2 := cell_of_heap hrW (j := 2) rfl
    have z2_ := frozen_of_heap hrW (j := 2)
    have p3 := cell_of_heap hh19 (j := 3) rfl
    have r3 := cell_of_heap hrW (j := 3) rfl
    have z3_ := frozen_of_heap hrW (j := 3)
    have p4 := cell_of_heap hh19 (j := 4) rfl
    have r4 := cell_of_heap hrW (j := 4) rfl
    have z4_ := frozen_of_heap hrW (j := 4)
    have p5 := cell_of_heap hh19 (j := 5) rfl
    have r5 := cell_of_heap hrW (j := 5) rfl
    have z5_ := frozen_of_heap hrW (j := 5)
    have k4_ := frozen_of_heap hh19 (j := 4)
    have k5_ := frozen_of_heap hh19 (j := 5)
    have hW0 := heap_lt hmW
    have hW1 := heap_lt hrW
    have hWg := heap_lt hh19
    have hgw : w.heap.size ≤ g := by omega
    cases r : fineB pa pb pc pd 0 0 with
    | false =>
      obtain ⟨u1, rfl⟩ := HN.out r
      injection u1 with u1 u2 u3 u4 u5 u6
      subst u1 u2 u3 u4 u5 u6
      clear HN HY HA HB HC HD
      go_wp2_with (go_at_call 18; refine (fine_any _ _ _ _ _ _ _).mono ?_; rintro e w2 ⟨rfl, hb⟩; (try replace hb := undrew hb); obtain ⟨hc, hf⟩ := ch hb; have hz := hb.size; (try simp only [World.size_alloc, World.size_setCell, World.size_drew] at hz); have z0 : w.heap.size < w2.heap.size := (by omega); have z1 : w.heap.size + 1 < w2.heap.size := (by omega); have zg : g < w2.heap.size := (by omega))
      exact bodyPost_ret (v := .tuple #[.agg #[.int .i64 0, .int .i64 0, .int .i64 0, .int .i64 0, .int .i64 0, .int .i64 0], .int .i64 30]) (by simp [results, Try.results36, go_sem, *]) rfl ⟨rfl, by (repeat (first | with_reducible exact Below.refl _ _ | with_reducible apply below_alloc | with_reducible apply below_drew1 | with_reducible assumption | (with_reducible refine Keep.below (by assumption)) | (with_reducible refine bel ?_ (by assumption)) | ((with_reducible refine below_set ?_ ?_); rotate_left; (focus (first | assumption | omega | (simp; done) | (simp; omega))))))⟩
    | true =>
      obtain ⟨hx, hy, hfin⟩ := HY.out r
      obtain ⟨⟨A1, A2, B1, B2, C1, C2⟩, D1, D2, _, _, _, _⟩ := fine_bd r
      clear HN HY HA HB HC HD
      have s1 := sum_bd A1 A2 B1 B2 (by omega : -8589934592 ≤ e) (by omega) (by omega : -8589934592 ≤ f) (by omega)
      have s2 := sum_bd C1 C2 D1 D2 (by omega : -8589934592 ≤ e) (by omega) (by omega : -8589934592 ≤ f) (by omega)
      have y1 := near_bd s1.1 s1.2
      have y2 := near_bd s2.1 s2.2
      rw [hx] at y1
      rw [hy] at y2
      have wx : IntKind.i64.wrap (-ex) = -ex := IntWalk.i64_in _ (by omega)
      have wy : IntKind.i64.wrap (-ey) = -ey := IntWalk.i64_in _ (by omega)
      have HX := Lib.hid hx
      have HY2 := Lib.hid hy
      have HF := Lib.hid hfin
      clear hx hy hfin
      go_wp2_with (first
        | (go_at_call 18; refine (fine_any _ _ _ _ _ _ _).mono ?_; rintro e w2 ⟨rfl, hb⟩; (try replace hb := undrew hb); obtain ⟨hc, hf⟩ := ch hb; have hz := hb.size; (try simp only [World.size_alloc, World.size_setCell, World.size_drew] at hz); have z0 : w.heap.size < w2.heap.size := (by omega); have z1 : w.heap.size + 1 < w2.heap.size := (by omega); have zg : g < w2.heap.size := (by omega))
        | (go_at_call 48; refine (turn_any _ _ _ _ _ _ _ _ _ (by omega) (by omega) (by omega) (by omega) (by omega) (by omega) (by omega) (by omega) (by omega) (by omega) (by omega) (by omega)).mono ?_; rintro e w3 ⟨rfl, hb⟩; (try replace hb := undrew hb); obtain ⟨hc, hf⟩ := ch hb; have hz := hb.size; (try simp only [World.size_alloc, World.size_setCell, World.size_drew] at hz); have z0 : w.heap.size < w3.heap.size := (by omega); have z1 : w.heap.size + 1 < w3.heap.size := (by omega); have zg : g < w3.heap.size := (by omega))
        | (go_at_call_of 52 (Value.int IntKind.i64 (pa * e + pb * f)); refine (near_is (pa * e + pb * f) ex _ s1.1 s1.2 HX.out).mono ?_; rintro e w4 ⟨rfl, hb⟩; (try replace hb := undrew hb); obtain ⟨hc, hf⟩ := ch hb; have hz := hb.size; (try simp only [World.size_alloc, World.size_setCell, World.size_drew] at hz); have z0 : w.heap.size < w4.heap.size := (by omega); have z1 : w.heap.size + 1 < w4.heap.size := (by omega); have zg : g < w4.heap.size := (by omega))
        | (go_at_call_of 52 (Value.int IntKind.i64 (pc * e + pd * f)); refine (near_is (pc * e + pd * f) ey _ s2.1 s2.2 HY2.out).mono ?_; rintro e w5 ⟨rfl, hb⟩; (try replace hb := undrew hb); obtain ⟨hc, hf⟩ := ch hb; have hz := hb.size; (try simp only [World.size_alloc, World.size_setCell, World.size_drew] at hz); have z0 : w.heap.size < w5.heap.size := (by omega); have z1 : w.heap.size + 1 < w5.heap.size := (by omega); have zg : g < w5.heap.size := (by omega))
        | (go_at_call 51; refine (HF.out _).mono ?_; rintro e w6 ⟨rfl, hb⟩; (try replace hb := undrew hb); obtain ⟨hc, hf⟩ := ch hb; have hz := hb.size; (try simp only [World.size_alloc, World.size_setCell, World.size_drew] at hz); have z0 : w.heap.size < w6.heap.size := (by omega); have z1 : w.heap.size + 1 < w6.heap.size := (by omega); have zg : g < w6.heap.size := (by omega)))
      exact bodyPost_ret (v := .tuple #[.agg #[.int .i64 x1, .int .i64 x2, .int .i64 x3, .int .i64 x4, .int .i64 x5, .int .i64 x6], .int .i64 x7]) (by simp [results, Try.results36, go_sem, *]) rfl ⟨rfl, by (repeat (first | with_reducible exact Below.refl _ _ | with_reducible apply below_alloc | with_reducible apply below_drew1 | with_reducible assumption | (with_reducible refine Keep.below (by assumption)) | (with_reducible refine bel ?_ (by assumption)) | ((with_reducible refine below_set ?_ ?_); rotate_left; (focus (first | assumption | omega | (simp; done) | (simp; omega))))))⟩
end Go.Proofs.Ytjekoaodgdodjaa
