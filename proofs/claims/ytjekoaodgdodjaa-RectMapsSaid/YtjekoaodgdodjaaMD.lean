/- The document's Back; both at every input. -/
import Derived.Test.YtjekoaodgdodjaaMV
set_option linter.unusedVariables false
set_option linter.unusedSimpArgs false
namespace Go.Proofs.Ytjekoaodgdodjaa
open Go.RowKit
open Go.Proofs.YtjekoaodgdodjaaW.PrintWords (Drawn0)
open Go.Proofs.Ytjekoaodgdodjaa.Maps
theorem fineD (a b c d e f : Int) (w : World) : Calls Try.prog 33 #[.agg #[.int .i64 a, .int .i64 b, .int .i64 c, .int .i64 d, .int .i64 e, .int .i64 f]] w fun r w' => r = .returned (.bool (fineB a b c d e f)) ∧ Below w.heap.size w w' := PThen.dioramaref20_Fine.calls _ _ _ _ _ _ _ w (refFine _ _ _ _ _ _)
theorem nearD (n k p : Int) (w : World) (hk : ¬ k = 0) (b1 : -1152921504606846976 ≤ k) (b2 : k ≤ 1152921504606846976) (h1 : -4611686018427387904 ≤ n) (h2 : n ≤ 4611686018427387904) (hp : nearF n k = p) : Calls Try.prog 59 #[.int .i64 n, .int .i64 k] w fun e w' => e = .returned (.int .i64 p) ∧ Below w.heap.size w w' :=
  (PThen.dioramaref20_near.calls n k p w (by rw [refNear n k hk b1 b2 h1 h2, hp])).mono fun e w' ⟨he, hd⟩ => ⟨he, hd.below⟩
theorem mfineD (a b c d e f : Int) (x1 x2 x3 x4 x5 x6 x7 : Int) (w : World) (h : (if fineB a b c d e f = true then (a, b, c, d, e, f, 0) else (0, 0, 0, 0, 0, 0, 30)) = ((x1, x2, x3, x4, x5, x6, x7) : Int × Int × Int × Int × Int × Int × Int)) :
    Calls Try.prog 58 #[.agg #[.int .i64 a, .int .i64 b, .int .i64 c, .int .i64 d, .int .i64 e, .int .i64 f]] w fun r w' => r = .returned (.tuple #[.agg #[.int .i64 x1, .int .i64 x2, .int .i64 x3, .int .i64 x4, .int .i64 x5, .int .i64 x6], .int .i64 x7]) ∧ Below w.heap.size w w' :=
  PThen.dioramaref20_fine.calls _ _ _ _ _ _ _ _ _ _ _ _ _ w (by rw [reffine, h])
theorem mfineO (a b c d e f : Int) (x1 x2 x3 x4 x5 x6 x7 : Int) (w : World) (h : (if fineB a b c d e f = true then (a, b, c, d, e, f, 0) else (0, 0, 0, 0, 0, 0, 30)) = ((x1, x2, x3, x4, x5, x6, x7) : Int × Int × Int × Int × Int × Int × Int)) :
    Calls Try.prog 51 #[.agg #[.int .i64 a, .int .i64 b, .int .i64 c, .int .i64 d, .int .i64 e, .int .i64 f]] w fun r w' => r = .returned (.tuple #[.agg #[.int .i64 x1, .int .i64 x2, .int .i64 x3, .int .i64 x4, .int .i64 x5, .int .i64 x6], .int .i64 x7]) ∧ Below w.heap.size w w' := by
  by_cases r : fineB a b c d e f = true
  · rw [if_pos r] at h
    simp only [Prod.mk.injEq] at h
    obtain ⟨rfl, rfl, rfl, rfl, rfl, rfl, rfl⟩ := h
    exact mfine_yes _ _ _ _ _ _ w r
  · rw [if_neg r] at h
    simp only [Prod.mk.injEq] at h
    obtain ⟨rfl, rfl, rfl, rfl, rfl, rfl, rfl⟩ := h
    exact mfine_no _ _ _ _ _ _ w (by simpa using r)
set_option maxHeartbeats 1000000 in
theorem backD_no (a b c d e f : Int) (w : World) (h : fineB a b c d e f = false) :
    Calls Try.prog 37 #[.agg #[.int .i64 a, .int .i64 b, .int .i64 c, .int .i64 d, .int .i64 e, .int .i64 f]] w fun r w' => r = .returned (.tuple #[.agg #[.int .i64 0, .int .i64 0, .int .i64 0, .int .i64 0, .int .i64 0, .int .i64 0], .int .i64 1]) ∧ Below w.heap.size w w' := by
  go_enter Try.func37, Try.ntmps37
  go_wp2_with (go_at_call 33; refine (fineD _ _ _ _ _ _ _).mono ?_; rintro e w1 ⟨rfl, hb⟩; (try replace hb := undrew hb); obtain ⟨hc, hf⟩ := ch hb; have hz := hb.size; (try simp only [World.size_alloc, World.size_setCell, World.size_drew] at hz); have zw0 : w.heap.size < w1.heap.size := (by omega); have zw1 : w.heap.size + 1 < w1.heap.size := (by omega))
  exact bodyPost_ret (v := .tuple #[.agg #[.int .i64 0, .int .i64 0, .int .i64 0, .int .i64 0, .int .i64 0, .int .i64 0], .int .i64 1]) (by simp [results, Try.results37, go_sem, *]) rfl ⟨rfl, by (repeat (first | with_reducible exact Below.refl _ _ | with_reducible apply below_alloc | with_reducible apply below_drew1 | with_reducible assumption | (with_reducible refine Keep.below (by assumption)) | (with_reducible refine bel ?_ (by assumption)) | ((with_reducible refine below_set ?_ ?_); rotate_left; (focus (first | assumption | omega | (simp; done) | (simp; omega))))))⟩
set_option maxHeartbeats 1000000 in
theorem backD_zero (a b c d e f : Int) (w : World) (h : fineB a b c d e f = true) (hD : a * d - b * c = 0) :
    Calls Try.prog 37 #[.agg #[.int .i64 a, .int .i64 b, .int .i64 c, .int .i64 d, .int .i64 e, .int .i64 f]] w fun r w' => r = .returned (.tuple #[.agg #[.int .i64 0, .int .i64 0, .int .i64 0, .int .i64 0, .int .i64 0, .int .i64 0], .int .i64 31]) ∧ Below w.heap.size w w' := by
  obtain ⟨q1, q2, q3, q4, q5⟩ := det_facts h 0 hD
  clear hD
  go_enter Try.func37, Try.ntmps37
  go_wp2_with (go_at_call 33; refine (fineD _ _ _ _ _ _ _).mono ?_; rintro e w1 ⟨rfl, hb⟩; (try replace hb := undrew hb); obtain ⟨hc, hf⟩ := ch hb; have hz := hb.size; (try simp only [World.size_alloc, World.size_setCell, World.size_drew] at hz); have zw0 : w.heap.size < w1.heap.size := (by omega); have zw1 : w.heap.size + 1 < w1.heap.size := (by omega))
  exact bodyPost_ret (v := .tuple #[.agg #[.int .i64 0, .int .i64 0, .int .i64 0, .int .i64 0, .int .i64 0, .int .i64 0], .int .i64 31]) (by simp [results, Try.results37, go_sem, *]) rfl ⟨rfl, by (repeat (first | with_reducible exact Below.refl _ _ | with_reducible apply below_alloc | with_reducible apply below_drew1 | with_reducible assumption | (with_reducible refine Keep.below (by assumption)) | (with_reducible refine bel ?_ (by assumption)) | ((with_reducible refine below_set ?_ ?_); rotate_left; (focus (first | assumption | omega | (simp; done) | (simp; omega))))))⟩

set_option maxRecDepth 10000 in
set_option maxHeartbeats 8000000 in
theorem backD_walk (a b c d e f D pa pb pc pd ex ey x1 x2 x3 x4 x5 x6 x7 : Int) (w : World) (h : fineB a b c d e f = true) (hD : a * d - b * c = D) (hnz : ¬ D = 0)
    (hA : nearF (d * 4294967296) D = pa) (hB : nearF (-b * 4294967296) D = pb) (hC : nearF (-c * 4294967296) D = pc) (hDd : nearF (a * 4294967296) D = pd)
    (hno : fineB pa pb pc pd 0 0 = false → (⟨x1, x2, x3, x4, x5, x6⟩ : M6) = .zero ∧ x7 = 30)
    (hyes : fineB pa pb pc pd 0 0 = true → nearF (pa * e + pb * f) 65536 = ex ∧ nearF (pc * e + pd * f) 65536 = ey ∧ ∀ W : World, Calls Try.prog 58 #[.agg #[.int .i64 pa, .int .i64 pb, .int .i64 pc, .int .i64 pd, .int .i64 (-ex), .int .i64 (-ey)]] W fun r w' => r = .returned (.tuple #[.agg #[.int .i64 x1, .int .i64 x2, .int .i64 x3, .int .i64 x4, .int .i64 x5, .int .i64 x6], .int .i64 x7]) ∧ Below W.heap.size W w') :
    Calls Try.prog 37 #[.agg #[.int .i64 a, .int .i64 b, .int .i64 c, .int .i64 d, .int .i64 e, .int .i64 f]] w fun r w' => r = .returned (.tuple #[.agg #[.int .i64 x1, .int .i64 x2, .int .i64 x3, .int .i64 x4, .int .i64 x5, .int .i64 x6], .int .i64 x7]) ∧ Below w.heap.size w w' := by
  obtain ⟨q1, q2, q3, q4, q5⟩ := det_facts h D hD
  obtain ⟨⟨a1, a2, b1, b2, c1, c2⟩, d1, d2, e1, e2, f1, f2⟩ := fine_bd h
  have HA := Lib.hid hA
  have HB := Lib.hid hB
  have HC := Lib.hid hC
  have HD := Lib.hid hDd
  have HN := Lib.hid hno
  have HY := Lib.hid hyes
  clear hD hA hB hC hDd hno hyes
  have wb : IntKind.i64.wrap (-b) = -b := IntWalk.i64_in _ (by omega)
  have wc : IntKind.i64.wrap (-c) = -c := IntWalk.i64_in _ (by omega)
  have m1 : IntKind.i64.wrap (a * 4294967296) = a * 4294967296 := IntWalk.i64_in _ (by omega)
  have m2 : IntKind.i64.wrap (-b * 4294967296) = -b * 4294967296 := IntWalk.i64_in _ (by omega)
  have m3 : IntKind.i64.wrap (-c * 4294967296) = -c * 4294967296 := IntWalk.i64_in _ (by omega)
  have m4 : IntKind.i64.wrap (d * 4294967296) = d * 4294967296 := IntWalk.i64_in _ (by omega)
  go_enter Try.func37, Try.ntmps37
  go_wp2_with (go_at_call 33; refine (fineD _ _ _ _ _ _ _).mono ?_; rintro e w1 ⟨rfl, hb⟩; (try replace hb := undrew hb); obtain ⟨hc, hf⟩ := ch hb; have hz := hb.size; (try simp only [World.size_alloc, World.size_setCell, World.size_drew] at hz); have zw0 : w.heap.size < w1.heap.size := (by omega); have zw1 : w.heap.size + 1 < w1.heap.size := (by omega))
  have hm : w1.heap[w.heap.size]? = some (.cells #[.int .i64 a, .int .i64 b, .int .i64 c, .int .i64 d, .int .i64 e, .int .i64 f] 36 (0, 0)) := (hb.block _ (by (try simp only [World.size_alloc]); omega)).trans ((heap_alloc_old _ _ (by simp)).trans (heap_alloc_new w _))
  have hr : w1.heap[w.heap.size + 1]? = some (.cells #[.int .i64 0, .int .i64 0, .int .i64 0, .int .i64 0, .int .i64 0, .int .i64 0] 36 (0, 0)) := (hb.block _ (by (try simp only [World.size_alloc]); omega)).trans (heap_new_at (by simp))
  have hBW : Below w.heap.size w w1 := bel (below_alloc (below_alloc (Below.refl _ _) _) _) hb
  clear hb hc hf
  refine drawn_st (w := w1) ([Lf.v (.pointer (some ⟨w.heap.size, 3, none⟩)), Lf.v (.int .i64 d), Lf.v (.int .i64 4294967296), Lf.v (.int .i64 (d * 4294967296)), Lf.v (.int .i64 D), Lf.v (.int .i64 pa), Lf.v (.pointer (some ⟨w.heap.size, 1, none⟩)), Lf.v (.int .i64 b), Lf.v (.int .i64 (-b)), Lf.v (.int .i64 4294967296), Lf.v (.int .i64 (-b * 4294967296)), Lf.v (.int .i64 D), Lf.v (.int .i64 pb), Lf.v (.pointer (some ⟨w.heap.size, 2, none⟩)), Lf.v (.int .i64 c), Lf.v (.int .i64 (-c)), Lf.v (.int .i64 4294967296), Lf.v (.int .i64 (-c * 4294967296)), Lf.v (.int .i64 D), Lf.v (.int .i64 pc), Lf.v (.pointer (some ⟨w.heap.size, 0, none⟩)), Lf.v (.int .i64 a), Lf.v (.int .i64 4294967296), Lf.v (.int .i64 (a * 4294967296)), Lf.v (.int .i64 D), Lf.v (.int .i64 pd), Lf.v (.agg #[.int .i64 pa, .int .i64 pb, .int .i64 pc, .int .i64 pd, .int .i64 0, .int .i64 0]), Lf.nw 36 #[.int .i64 0, .int .i64 0, .int .i64 0, .int .i64 0, .int .i64 0, .int .i64 0] #[.int .i64 pa, .int .i64 pb, .int .i64 pc, .int .i64 pd, .int .i64 0, .int .i64 0] 28, Lf.st 27] : List Lf) (by kernel_rfl) (by kernel_rfl) (by kernel_rfl) (by kernel_rfl) ?_ ?_ ?_ ?_
  · intro i_ v_ hi a_ W hs ho hB
    have hl := (List.getElem?_eq_some_iff.1 hi).1
    rcases (show i_ = 0 ∨ i_ = 1 ∨ i_ = 2 ∨ i_ = 3 ∨ i_ = 4 ∨ i_ = 5 ∨ i_ = 6 ∨ i_ = 7 ∨ i_ = 8 ∨ i_ = 9 ∨ i_ = 10 ∨ i_ = 11 ∨ i_ = 12 ∨ i_ = 13 ∨ i_ = 14 ∨ i_ = 15 ∨ i_ = 16 ∨ i_ = 17 ∨ i_ = 18 ∨ i_ = 19 ∨ i_ = 20 ∨ i_ = 21 ∨ i_ = 22 ∨ i_ = 23 ∨ i_ = 24 ∨ i_ = 25 ∨ i_ = 26 ∨ i_ = 27 ∨ i_ = 28 by simp at hl; omega) with rfl | rfl | rfl | rfl | rfl | rfl | rfl | rfl | rfl | rfl | rfl | rfl | rfl | rfl | rfl | rfl | rfl | rfl | rfl | rfl | rfl | rfl | rfl | rfl | rfl | rfl | rfl | rfl | rfl
    · obtain rfl : (.pointer (some ⟨w.heap.size, 3, none⟩)) = v_ := Lf.v.inj (Option.some.inj (show some (Lf.v (.pointer (some ⟨w.heap.size, 3, none⟩))) = some (Lf.v v_) from hi))
      clear hi hl
      have e1 : a_.tmps[1]? = some (.pointer (some ⟨w.heap.size, 0, none⟩)) := (ho 1 (by kernel_rfl)).trans rfl
      refine ⟨_, rfl, fun KR hKR => ?_⟩
      rw [if_pos (show Region.wanted _ _ = true from rfl)]
      clear hs ho
      go_simp
      exact hKR _ (Below.refl _ _)
    · obtain rfl : (.int .i64 d) = v_ := Lf.v.inj (Option.some.inj (show some (Lf.v (.int .i64 d)) = some (Lf.v v_) from hi))
      clear hi hl
      have e25 : a_.tmps[25]? = some (.pointer (some ⟨w.heap.size, 3, none⟩)) := hs 0 (by kernel_rfl) _ rfl 25 rfl
      refine ⟨_, rfl, fun KR hKR => ?_⟩
      rw [if_pos (show Region.wanted _ _ = true from rfl)]
      have c := cell_of_heap ((hB.block _ (heap_lt hm)).trans hm) (j := 3) (v := .int .i64 d) rfl
      clear hs ho
      go_simp
      exact hKR _ (Below.refl _ _)
    · obtain rfl : (.int .i64 4294967296) = v_ := Lf.v.inj (Option.some.inj (show some (Lf.v (.int .i64 4294967296)) = some (Lf.v v_) from hi))
      clear hi hl
      have e5 : a_.tmps[5]? = some (.int .i64 4294967296) := (ho 5 (by kernel_rfl)).trans rfl
      refine ⟨_, rfl, fun KR hKR => ?_⟩
      rw [if_pos (show Region.wanted _ _ = true from rfl)]
      clear hs ho
      go_simp
      exact hKR _ (Below.refl _ _)
    · obtain rfl : (.int .i64 (d * 4294967296)) = v_ := Lf.v.inj (Option.some.inj (show some (Lf.v (.int .i64 (d * 4294967296))) = some (Lf.v v_) from hi))
      clear hi hl
      have e26 : a_.tmps[26]? = some (.int .i64 d) := hs 1 (by kernel_rfl) _ rfl 26 rfl
      have e27 : a_.tmps[27]? = some (.int .i64 4294967296) := hs 2 (by kernel_rfl) _ rfl 27 rfl
      refine ⟨_, rfl, fun KR hKR => ?_⟩
      rw [if_pos (show Region.wanted _ _ = true from rfl)]
      clear hs ho
      go_simp
      exact hKR _ (Below.refl _ _)
    · obtain rfl : (.int .i64 D) = v_ := Lf.v.inj (Option.some.inj (show some (Lf.v (.int .i64 D)) = some (Lf.v v_) from hi))
      clear hi hl
      have e4 : a_.tmps[4]? = some (.int .i64 D) := (ho 4 (by kernel_rfl)).trans rfl
      refine ⟨_, rfl, fun KR hKR => ?_⟩
      rw [if_pos (show Region.wanted _ _ = true from rfl)]
      clear hs ho
      go_simp
      exact hKR _ (Below.refl _ _)
    · obtain rfl : (.int .i64 pa) = v_ := Lf.v.inj (Option.some.inj (show some (Lf.v (.int .i64 pa)) = some (Lf.v v_) from hi))
      clear hi hl
      have e28 : a_.tmps[28]? = some (.int .i64 (d * 4294967296)) := hs 3 (by kernel_rfl) _ rfl 28 rfl
      have e29 : a_.tmps[29]? = some (.int .i64 D) := hs 4 (by kernel_rfl) _ rfl 29 rfl
      refine ⟨_, rfl, fun KR hKR => ?_⟩
      rw [if_pos (show Region.wanted _ _ = true from rfl)]
      clear hs ho
      (go_simp; (go_at_call 59; refine (nearD (d * 4294967296) D _ _ hnz (by omega) (by omega) (by omega) (by omega) HA.out).mono ?_; rintro e wz ⟨rfl, hb⟩); exact hKR _ hb)
    · obtain rfl : (.pointer (some ⟨w.heap.size, 1, none⟩)) = v_ := Lf.v.inj (Option.some.inj (show some (Lf.v (.pointer (some ⟨w.heap.size, 1, none⟩))) = some (Lf.v v_) from hi))
      clear hi hl
      have e1 : a_.tmps[1]? = some (.pointer (some ⟨w.heap.size, 0, none⟩)) := (ho 1 (by kernel_rfl)).trans rfl
      refine ⟨_, rfl, fun KR hKR => ?_⟩
      rw [if_pos (show Region.wanted _ _ = true from rfl)]
      clear hs ho
      go_simp
      exact hKR _ (Below.refl _ _)
    · obtain rfl : (.int .i64 b) = v_ := Lf.v.inj (Option.some.inj (show some (Lf.v (.int .i64 b)) = some (Lf.v v_) from hi))
      clear hi hl
      have e31 : a_.tmps[31]? = some (.pointer (some ⟨w.heap.size, 1, none⟩)) := hs 6 (by kernel_rfl) _ rfl 31 rfl
      refine ⟨_, rfl, fun KR hKR => ?_⟩
      rw [if_pos (show Region.wanted _ _ = true from rfl)]
      have c := cell_of_heap ((hB.block _ (heap_lt hm)).trans hm) (j := 1) (v := .int .i64 b) rfl
      clear hs ho
      go_simp
      exact hKR _ (Below.refl _ _)
    · obtain rfl : (.int .i64 (-b)) = v_ := Lf.v.inj (Option.some.inj (show some (Lf.v (.int .i64 (-b))) = some (Lf.v v_) from hi))
      clear hi hl
      have e32 : a_.tmps[32]? = some (.int .i64 b) := hs 7 (by kernel_rfl) _ rfl 32 rfl
      refine ⟨_, rfl, fun KR hKR => ?_⟩
      rw [if_pos (show Region.wanted _ _ = true from rfl)]
      clear hs ho
      go_simp
      exact hKR _ (Below.refl _ _)
    · obtain rfl : (.int .i64 4294967296) = v_ := Lf.v.inj (Option.some.inj (show some (Lf.v (.int .i64 4294967296)) = some (Lf.v v_) from hi))
      clear hi hl
      have e5 : a_.tmps[5]? = some (.int .i64 4294967296) := (ho 5 (by kernel_rfl)).trans rfl
      refine ⟨_, rfl, fun KR hKR => ?_⟩
      rw [if_pos (show Region.wanted _ _ = true from rfl)]
      clear hs ho
      go_simp
      exact hKR _ (Below.refl _ _)
    · obtain rfl : (.int .i64 (-b * 4294967296)) = v_ := Lf.v.inj (Option.some.inj (show some (Lf.v (.int .i64 (-b * 4294967296))) = some (Lf.v v_) from hi))
      clear hi hl
      have e33 : a_.tmps[33]? = some (.int .i64 (-b)) := hs 8 (by kernel_rfl) _ rfl 33 rfl
      have e34 : a_.tmps[34]? = some (.int .i64 4294967296) := hs 9 (by kernel_rfl) _ rfl 34 rfl
      refine ⟨_, rfl, fun KR hKR => ?_⟩
      rw [if_pos (show Region.wanted _ _ = true from rfl)]
      clear hs ho
      go_simp
      exact hKR _ (Below.refl _ _)
    · obtain rfl : (.int .i64 D) = v_ := Lf.v.inj (Option.some.inj (show some (Lf.v (.int .i64 D)) = some (Lf.v v_) from hi))
      clear hi hl
      have e4 : a_.tmps[4]? = some (.int .i64 D) := (ho 4 (by kernel_rfl)).trans rfl
      refine ⟨_, rfl, fun KR hKR => ?_⟩
      rw [if_pos (show Region.wanted _ _ = true from rfl)]
      clear hs ho
      go_simp
      exact hKR _ (Below.refl _ _)
    · obtain rfl : (.int .i64 pb) = v_ := Lf.v.inj (Option.some.inj (show some (Lf.v (.int .i64 pb)) = some (Lf.v v_) from hi))
      clear hi hl
      have e35 : a_.tmps[35]? = some (.int .i64 (-b * 4294967296)) := hs 10 (by kernel_rfl) _ rfl 35 rfl
      have e36 : a_.tmps[36]? = some (.int .i64 D) := hs 11 (by kernel_rfl) _ rfl 36 rfl
      refine ⟨_, rfl, fun KR hKR => ?_⟩
      rw [if_pos (show Region.wanted _ _ = true from rfl)]
      clear hs ho
      (go_simp; (go_at_call 59; refine (nearD (-b * 4294967296) D _ _ hnz (by omega) (by omega) (by omega) (by omega) HB.out).mono ?_; rintro e wz ⟨rfl, hb⟩); exact hKR _ hb)
    · obtain rfl : (.pointer (some ⟨w.heap.size, 2, none⟩)) = v_ := Lf.v.inj (Option.some.inj (show some (Lf.v (.pointer (some ⟨w.heap.size, 2, none⟩))) = some (Lf.v v_) from hi))
      clear hi hl
      have e1 : a_.tmps[1]? = some (.pointer (some ⟨w.heap.size, 0, none⟩)) := (ho 1 (by kernel_rfl)).trans rfl
      refine ⟨_, rfl, fun KR hKR => ?_⟩
      rw [if_pos (show Region.wanted _ _ = true from rfl)]
      clear hs ho
      go_simp
      exact hKR _ (Below.refl _ _)
    · obtain rfl : (.int .i64 c) = v_ := Lf.v.inj (Option.some.inj (show some (Lf.v (.int .i64 c)) = some (Lf.v v_) from hi))
      clear hi hl
      have e38 : a_.tmps[38]? = some (.pointer (some ⟨w.heap.size, 2, none⟩)) := hs 13 (by kernel_rfl) _ rfl 38 rfl
      refine ⟨_, rfl, fun KR hKR => ?_⟩
      rw [if_pos (show Region.wanted _ _ = true from rfl)]
      have c := cell_of_heap ((hB.block _ (heap_lt hm)).trans hm) (j := 2) (v := .int .i64 c) rfl
      clear hs ho
      go_simp
      exact hKR _ (Below.refl _ _)
    · obtain rfl : (.int .i64 (-c)) = v_ := Lf.v.inj (Option.some.inj (show some (Lf.v (.int .i64 (-c))) = some (Lf.v v_) from hi))
      clear hi hl
      have e39 : a_.tmps[39]? = some (.int .i64 c) := hs 14 (by kernel_rfl) _ rfl 39 rfl
      refine ⟨_, rfl, fun KR hKR => ?_⟩
      rw [if_pos (show Region.wanted _ _ = true from rfl)]
      clear hs ho
      go_simp
      exact hKR _ (Below.refl _ _)
    · obtain rfl : (.int .i64 4294967296) = v_ := Lf.v.inj (Option.some.inj (show some (Lf.v (.int .i64 4294967296)) = some (Lf.v v_) from hi))
      clear hi hl
      have e5 : a_.tmps[5]? = some (.int .i64 4294967296) := (ho 5 (by kernel_rfl)).trans rfl
      refine ⟨_, rfl, fun KR hKR => ?_⟩
      rw [if_pos (show Region.wanted _ _ = true from rfl)]
      clear hs ho
      go_simp
      exact hKR _ (Below.refl _ _)
    · obtain rfl : (.int .i64 (-c * 4294967296)) = v_ := Lf.v.inj (Option.some.inj (show some (Lf.v (.int .i64 (-c * 4294967296))) = some (Lf.v v_) from hi))
      clear hi hl
      have e40 : a_.tmps[40]? = some (.int .i64 (-c)) := hs 15 (by kernel_rfl) _ rfl 40 rfl
      have e41 : a_.tmps[41]? = some (.int .i64 4294967296) := hs 16 (by kernel_rfl) _ rfl 41 rfl
      refine ⟨_, rfl, fun KR hKR => ?_⟩
      rw [if_pos (show Region.wanted _ _ = true from rfl)]
      clear hs ho
      go_simp
      exact hKR _ (Below.refl _ _)
    · obtain rfl : (.int .i64 D) = v_ := Lf.v.inj (Option.some.inj (show some (Lf.v (.int .i64 D)) = some (Lf.v v_) from hi))
      clear hi hl
      have e4 : a_.tmps[4]? = some (.int .i64 D) := (ho 4 (by kernel_rfl)).trans rfl
      refine ⟨_, rfl, fun KR hKR => ?_⟩
      rw [if_pos (show Region.wanted _ _ = true from rfl)]
      clear hs ho
      go_simp
      exact hKR _ (Below.refl _ _)
    · obtain rfl : (.int .i64 pc) = v_ := Lf.v.inj (Option.some.inj (show some (Lf.v (.int .i64 pc)) = some (Lf.v v_) from hi))
      clear hi hl
      have e42 : a_.tmps[42]? = some (.int .i64 (-c * 4294967296)) := hs 17 (by kernel_rfl) _ rfl 42 rfl
      have e43 : a_.tmps[43]? = some (.int .i64 D) := hs 18 (by kernel_rfl) _ rfl 43 rfl
      refine ⟨_, rfl, fun KR hKR => ?_⟩
      rw [if_pos (show Region.wanted _ _ = true from rfl)]
      clear hs ho
      (go_simp; (go_at_call 59; refine (nearD (-c * 4294967296) D _ _ hnz (by omega) (by omega) (by omega) (by omega) HC.out).mono ?_; rintro e wz ⟨rfl, hb⟩); exact hKR _ hb)
    · obtain rfl : (.pointer (some ⟨w.heap.size, 0, none⟩)) = v_ := Lf.v.inj (Option.some.inj (show some (Lf.v (.pointer (some ⟨w.heap.size, 0, none⟩))) = some (Lf.v v_) from hi))
      clear hi hl
      have e1 : a_.tmps[1]? = some (.pointer (some ⟨w.heap.size, 0, none⟩)) := (ho 1 (by kernel_rfl)).trans rfl
      refine ⟨_, rfl, fun KR hKR => ?_⟩
      rw [if_pos (show Region.wanted _ _ = true from rfl)]
      clear hs ho
      go_simp
      exact hKR _ (Below.refl _ _)
    · obtain rfl : (.int .i64 a) = v_ := Lf.v.inj (Option.some.inj (show some (Lf.v (.int .i64 a)) = some (Lf.v v_) from hi))
      clear hi hl
      have e45 : a_.tmps[45]? = some (.pointer (some ⟨w.heap.size, 0, none⟩)) := hs 20 (by kernel_rfl) _ rfl 45 rfl
      refine ⟨_, rfl, fun KR hKR => ?_⟩
      rw [if_pos (show Region.wanted _ _ = true from rfl)]
      have c := cell_of_heap ((hB.block _ (heap_lt hm)).trans hm) (j := 0) (v := .int .i64 a) rfl
      clear hs ho
      go_simp
      exact hKR _ (Below.refl _ _)
    · obtain rfl : (.int .i64 4294967296) = v_ := Lf.v.inj (Option.some.inj (show some (Lf.v (.int .i64 4294967296)) = some (Lf.v v_) from hi))
      clear hi hl
      have e5 : a_.tmps[5]? = some (.int .i64 4294967296) := (ho 5 (by kernel_rfl)).trans rfl
      refine ⟨_, rfl, fun KR hKR => ?_⟩
      rw [if_pos (show Region.wanted _ _ = true from rfl)]
      clear hs ho
      go_simp
      exact hKR _ (Below.refl _ _)
    · obtain rfl : (.int .i64 (a * 4294967296)) = v_ := Lf.v.inj (Option.some.inj (show some (Lf.v (.int .i64 (a * 4294967296))) = some (Lf.v v_) from hi))
      clear hi hl
      have e46 : a_.tmps[46]? = some (.int .i64 a) := hs 21 (by kernel_rfl) _ rfl 46 rfl
      have e47 : a_.tmps[47]? = some (.int .i64 4294967296) := hs 22 (by kernel_rfl) _ rfl 47 rfl
      refine ⟨_, rfl, fun KR hKR => ?_⟩
      rw [if_pos (show Region.wanted _ _ = true from rfl)]
      clear hs ho
      go_simp
      exact hKR _ (Below.refl _ _)
    · obtain rfl : (.int .i64 D) = v_ := Lf.v.inj (Option.some.inj (show some (Lf.v (.int .i64 D)) = some (Lf.v v_) from hi))
      clear hi hl
      have e4 : a_.tmps[4]? = some (.int .i64 D) := (ho 4 (by kernel_rfl)).trans rfl
      refine ⟨_, rfl, fun KR hKR => ?_⟩
      rw [if_pos (show Region.wanted _ _ = true from rfl)]
      clear hs ho
      go_simp
      exact hKR _ (Below.refl _ _)
    · obtain rfl : (.int .i64 pd) = v_ := Lf.v.inj (Option.some.inj (show some (Lf.v (.int .i64 pd)) = some (Lf.v v_) from hi))
      clear hi hl
      have e48 : a_.tmps[48]? = some (.int .i64 (a * 4294967296)) := hs 23 (by kernel_rfl) _ rfl 48 rfl
      have e49 : a_.tmps[49]? = some (.int .i64 D) := hs 24 (by kernel_rfl) _ rfl 49 rfl
      refine ⟨_, rfl, fun KR hKR => ?_⟩
      rw [if_pos (show Region.wanted _ _ = true from rfl)]
      clear hs ho
      (go_simp; (go_at_call 59; refine (nearD (a * 4294967296) D _ _ hnz (by omega) (by omega) (by omega) (by omega) HD.out).mono ?_; rintro e wz ⟨rfl, hb⟩); exact hKR _ hb)
    · obtain rfl : (.agg #[.int .i64 pa, .int .i64 pb, .int .i64 pc, .int .i64 pd, .int .i64 0, .int .i64 0]) = v_ := Lf.v.inj (Option.some.inj (show some (Lf.v (.agg #[.int .i64 pa, .int .i64 pb, .int .i64 pc, .int .i64 pd, .int .i64 0, .int .i64 0])) = some (Lf.v v_) from hi))
      clear hi hl
      have e30 : a_.tmps[30]? = some (.int .i64 pa) := hs 5 (by kernel_rfl) _ rfl 30 rfl
      have e37 : a_.tmps[37]? = some (.int .i64 pb) := hs 12 (by kernel_rfl) _ rfl 37 rfl
      have e44 : a_.tmps[44]? = some (.int .i64 pc) := hs 19 (by kernel_rfl) _ rfl 44 rfl
      have e50 : a_.tmps[50]? = some (.int .i64 pd) := hs 25 (by kernel_rfl) _ rfl 50 rfl
      refine ⟨_, rfl, fun KR hKR => ?_⟩
      rw [if_pos (show Region.wanted _ _ = true from rfl)]
      clear hs ho
      go_simp
      exact hKR _ (Below.refl _ _)
    · exact Lf.noConfusion (Option.some.inj (show some (Lf.nw 36 #[.int .i64 0, .int .i64 0, .int .i64 0, .int .i64 0, .int .i64 0, .int .i64 0] #[.int .i64 pa, .int .i64 pb, .int .i64 pc, .int .i64 pd, .int .i64 0, .int .i64 0] 28) = some (Lf.v v_) from hi))
    · exact Lf.noConfusion (Option.some.inj (show some (Lf.st 27) = some (Lf.v v_) from hi))
  · intro i_ T_ Z_ S_ k_ hi a_ W
    have hl := (List.getElem?_eq_some_iff.1 hi).1
    rcases (show i_ = 0 ∨ i_ = 1 ∨ i_ = 2 ∨ i_ = 3 ∨ i_ = 4 ∨ i_ = 5 ∨ i_ = 6 ∨ i_ = 7 ∨ i_ = 8 ∨ i_ = 9 ∨ i_ = 10 ∨ i_ = 11 ∨ i_ = 12 ∨ i_ = 13 ∨ i_ = 14 ∨ i_ = 15 ∨ i_ = 16 ∨ i_ = 17 ∨ i_ = 18 ∨ i_ = 19 ∨ i_ = 20 ∨ i_ = 21 ∨ i_ = 22 ∨ i_ = 23 ∨ i_ = 24 ∨ i_ = 25 ∨ i_ = 26 ∨ i_ = 27 ∨ i_ = 28 by simp at hl; omega) with rfl | rfl | rfl | rfl | rfl | rfl | rfl | rfl | rfl | rfl | rfl | rfl | rfl | rfl | rfl | rfl | rfl | rfl | rfl | rfl | rfl | rfl | rfl | rfl | rfl | rfl | rfl | rfl | rfl
    · exact Lf.noConfusion (Option.some.inj (show some (Lf.v (.pointer (some ⟨w.heap.size, 3, none⟩))) = some (Lf.nw T_ Z_ S_ k_) from hi))
    · exact Lf.noConfusion (Option.some.inj (show some (Lf.v (.int .i64 d)) = some (Lf.nw T_ Z_ S_ k_) from hi))
    · exact Lf.noConfusion (Option.some.inj (show some (Lf.v (.int .i64 4294967296)) = some (Lf.nw T_ Z_ S_ k_) from hi))
    · exact Lf.noConfusion (Option.some.inj (show some (Lf.v (.int .i64 (d * 4294967296))) = some (Lf.nw T_ Z_ S_ k_) from hi))
    · exact Lf.noConfusion (Option.some.inj (show some (Lf.v (.int .i64 D)) = some (Lf.nw T_ Z_ S_ k_) from hi))
    · exact Lf.noConfusion (Option.some.inj (show some (Lf.v (.int .i64 pa)) = some (Lf.nw T_ Z_ S_ k_) from hi))
    · exact Lf.noConfusion (Option.some.inj (show some (Lf.v (.pointer (some ⟨w.heap.size, 1, none⟩))) = some (Lf.nw T_ Z_ S_ k_) from hi))
    · exact Lf.noConfusion (Option.some.inj (show some (Lf.v (.int .i64 b)) = some (Lf.nw T_ Z_ S_ k_) from hi))
    · exact Lf.noConfusion (Option.some.inj (show some (Lf.v (.int .i64 (-b))) = some (Lf.nw T_ Z_ S_ k_) from hi))
    · exact Lf.noConfusion (Option.some.inj (show some (Lf.v (.int .i64 4294967296)) = some (Lf.nw T_ Z_ S_ k_) from hi))
    · exact Lf.noConfusion (Option.some.inj (show some (Lf.v (.int .i64 (-b * 4294967296))) = some (Lf.nw T_ Z_ S_ k_) from hi))
    · exact Lf.noConfusion (Option.some.inj (show some (Lf.v (.int .i64 D)) = some (Lf.nw T_ Z_ S_ k_) from hi))
    · exact Lf.noConfusion (Option.some.inj (show some (Lf.v (.int .i64 pb)) = some (Lf.nw T_ Z_ S_ k_) from hi))
    · exact Lf.noConfusion (Option.some.inj (show some (Lf.v (.pointer (some ⟨w.heap.size, 2, none⟩))) = some (Lf.nw T_ Z_ S_ k_) from hi))
    · exact Lf.noConfusion (Option.some.inj (show some (Lf.v (.int .i64 c)) = some (Lf.nw T_ Z_ S_ k_) from hi))
    · exact Lf.noConfusion (Option.some.inj (show some (Lf.v (.int .i64 (-c))) = some (Lf.nw T_ Z_ S_ k_) from hi))
    · exact Lf.noConfusion (Option.some.inj (show some (Lf.v (.int .i64 4294967296)) = some (Lf.nw T_ Z_ S_ k_) from hi))
    · exact Lf.noConfusion (Option.some.inj (show some (Lf.v (.int .i64 (-c * 4294967296))) = some (Lf.nw T_ Z_ S_ k_) from hi))
    · exact Lf.noConfusion (Option.some.inj (show some (Lf.v (.int .i64 D)) = some (Lf.nw T_ Z_ S_ k_) from hi))
    · exact Lf.noConfusion (Option.some.inj (show some (Lf.v (.int .i64 pc)) = some (Lf.nw T_ Z_ S_ k_) from hi))
    · exact Lf.noConfusion (Option.some.inj (show some (Lf.v (.pointer (some ⟨w.heap.size, 0, none⟩))) = some (Lf.nw T_ Z_ S_ k_) from hi))
    · exact Lf.noConfusion (Option.some.inj (show some (Lf.v (.int .i64 a)) = some (Lf.nw T_ Z_ S_ k_) from hi))
    · exact Lf.noConfusion (Option.some.inj (show some (Lf.v (.int .i64 4294967296)) = some (Lf.nw T_ Z_ S_ k_) from hi))
    · exact Lf.noConfusion (Option.some.inj (show some (Lf.v (.int .i64 (a * 4294967296))) = some (Lf.nw T_ Z_ S_ k_) from hi))
    · exact Lf.noConfusion (Option.some.inj (show some (Lf.v (.int .i64 D)) = some (Lf.nw T_ Z_ S_ k_) from hi))
    · exact Lf.noConfusion (Option.some.inj (show some (Lf.v (.int .i64 pd)) = some (Lf.nw T_ Z_ S_ k_) from hi))
    · exact Lf.noConfusion (Option.some.inj (show some (Lf.v (.agg #[.int .i64 pa, .int .i64 pb, .int .i64 pc, .int .i64 pd, .int .i64 0, .int .i64 0])) = some (Lf.nw T_ Z_ S_ k_) from hi))
    · have h := Option.some.inj (show some (Lf.nw 36 #[.int .i64 0, .int .i64 0, .int .i64 0, .int .i64 0, .int .i64 0, .int .i64 0] #[.int .i64 pa, .int .i64 pb, .int .i64 pc, .int .i64 pd, .int .i64 0, .int .i64 0] 28) = some (Lf.nw T_ Z_ S_ k_) from hi)
      injection h with q1 q2 q3 q4
      subst q1 q2 q3 q4
      clear hi hl
      refine ⟨_, rfl, fun KR hKR => ?_⟩
      rw [if_pos (show Region.wanted _ _ = true from rfl)]
      go_simp
      exact hKR
    · exact Lf.noConfusion (Option.some.inj (show some (Lf.st 27) = some (Lf.nw T_ Z_ S_ k_) from hi))
  · intro i_ m_ T_ Z_ S_ hi hm_ a_ W g_ hp_ hg hs
    have hl := (List.getElem?_eq_some_iff.1 hi).1
    rcases (show i_ = 0 ∨ i_ = 1 ∨ i_ = 2 ∨ i_ = 3 ∨ i_ = 4 ∨ i_ = 5 ∨ i_ = 6 ∨ i_ = 7 ∨ i_ = 8 ∨ i_ = 9 ∨ i_ = 10 ∨ i_ = 11 ∨ i_ = 12 ∨ i_ = 13 ∨ i_ = 14 ∨ i_ = 15 ∨ i_ = 16 ∨ i_ = 17 ∨ i_ = 18 ∨ i_ = 19 ∨ i_ = 20 ∨ i_ = 21 ∨ i_ = 22 ∨ i_ = 23 ∨ i_ = 24 ∨ i_ = 25 ∨ i_ = 26 ∨ i_ = 27 ∨ i_ = 28 by simp at hl; omega) with rfl | rfl | rfl | rfl | rfl | rfl | rfl | rfl | rfl | rfl | rfl | rfl | rfl | rfl | rfl | rfl | rfl | rfl | rfl | rfl | rfl | rfl | rfl | rfl | rfl | rfl | rfl | rfl | rfl
    · exact Lf.noConfusion (Option.some.inj (show some (Lf.v (.pointer (some ⟨w.heap.size, 3, none⟩))) = some (Lf.st m_) from hi))
    · exact Lf.noConfusion (Option.some.inj (show some (Lf.v (.int .i64 d)) = some (Lf.st m_) from hi))
    · exact Lf.noConfusion (Option.some.inj (show some (Lf.v (.int .i64 4294967296)) = some (Lf.st m_) from hi))
    · exact Lf.noConfusion (Option.some.inj (show some (Lf.v (.int .i64 (d * 4294967296))) = some (Lf.st m_) from hi))
    · exact Lf.noConfusion (Option.some.inj (show some (Lf.v (.int .i64 D)) = some (Lf.st m_) from hi))
    · exact Lf.noConfusion (Option.some.inj (show some (Lf.v (.int .i64 pa)) = some (Lf.st m_) from hi))
    · exact Lf.noConfusion (Option.some.inj (show some (Lf.v (.pointer (some ⟨w.heap.size, 1, none⟩))) = some (Lf.st m_) from hi))
    · exact Lf.noConfusion (Option.some.inj (show some (Lf.v (.int .i64 b)) = some (Lf.st m_) from hi))
    · exact Lf.noConfusion (Option.some.inj (show some (Lf.v (.int .i64 (-b))) = some (Lf.st m_) from hi))
    · exact Lf.noConfusion (Option.some.inj (show some (Lf.v (.int .i64 4294967296)) = some (Lf.st m_) from hi))
    · exact Lf.noConfusion (Option.some.inj (show some (Lf.v (.int .i64 (-b * 4294967296))) = some (Lf.st m_) from hi))
    · exact Lf.noConfusion (Option.some.inj (show some (Lf.v (.int .i64 D)) = some (Lf.st m_) from hi))
    · exact Lf.noConfusion (Option.some.inj (show some (Lf.v (.int .i64 pb)) = some (Lf.st m_) from hi))
    · exact Lf.noConfusion (Option.some.inj (show some (Lf.v (.pointer (some ⟨w.heap.size, 2, none⟩))) = some (Lf.st m_) from hi))
    · exact Lf.noConfusion (Option.some.inj (show some (Lf.v (.int .i64 c)) = some (Lf.st m_) from hi))
    · exact Lf.noConfusion (Option.some.inj (show some (Lf.v (.int .i64 (-c))) = some (Lf.st m_) from hi))
    · exact Lf.noConfusion (Option.some.inj (show some (Lf.v (.int .i64 4294967296)) = some (Lf.st m_) from hi))
    · exact Lf.noConfusion (Option.some.inj (show some (Lf.v (.int .i64 (-c * 4294967296))) = some (Lf.st m_) from hi))
    · exact Lf.noConfusion (Option.some.inj (show some (Lf.v (.int .i64 D)) = some (Lf.st m_) from hi))
    · exact Lf.noConfusion (Option.some.inj (show some (Lf.v (.int .i64 pc)) = some (Lf.st m_) from hi))
    · exact Lf.noConfusion (Option.some.inj (show some (Lf.v (.pointer (some ⟨w.heap.size, 0, none⟩))) = some (Lf.st m_) from hi))
    · exact Lf.noConfusion (Option.some.inj (show some (Lf.v (.int .i64 a)) = some (Lf.st m_) from hi))
    · exact Lf.noConfusion (Option.some.inj (show some (Lf.v (.int .i64 4294967296)) = some (Lf.st m_) from hi))
    · exact Lf.noConfusion (Option.some.inj (show some (Lf.v (.int .i64 (a * 4294967296))) = some (Lf.st m_) from hi))
    · exact Lf.noConfusion (Option.some.inj (show some (Lf.v (.int .i64 D)) = some (Lf.st m_) from hi))
    · exact Lf.noConfusion (Option.some.inj (show some (Lf.v (.int .i64 pd)) = some (Lf.st m_) from hi))
    · exact Lf.noConfusion (Option.some.inj (show some (Lf.v (.agg #[.int .i64 pa, .int .i64 pb, .int .i64 pc, .int .i64 pd, .int .i64 0, .int .i64 0])) = some (Lf.st m_) from hi))
    · exact Lf.noConfusion (Option.some.inj (show some (Lf.nw 36 #[.int .i64 0, .int .i64 0, .int .i64 0, .int .i64 0, .int .i64 0, .int .i64 0] #[.int .i64 pa, .int .i64 pb, .int .i64 pc, .int .i64 pd, .int .i64 0, .int .i64 0] 28) = some (Lf.st m_) from hi))
    · obtain rfl : 27 = m_ := Lf.st.inj (Option.some.inj (show some (Lf.st 27) = some (Lf.st m_) from hi))
      have h := Option.some.inj (show some (Lf.nw 36 #[.int .i64 0, .int .i64 0, .int .i64 0, .int .i64 0, .int .i64 0, .int .i64 0] #[.int .i64 pa, .int .i64 pb, .int .i64 pc, .int .i64 pd, .int .i64 0, .int .i64 0] 28) = some (Lf.nw T_ Z_ S_ _) from hm_)
      injection h with q1 q2 q3 q4
      subst q1 q2 q3
      clear hi hm_ hl q4
      have e6 := hp_ 6 rfl
      have e51 : a_.tmps[51]? = some (.agg #[.int .i64 pa, .int .i64 pb, .int .i64 pc, .int .i64 pd, .int .i64 0, .int .i64 0]) := hs 26 (by kernel_rfl) _ rfl 51 rfl
      refine ⟨_, rfl, fun KR hKR => ?_⟩
      rw [if_pos (show Region.wanted _ _ = true from rfl)]
      exact wp_store_whole 36 (.tmp 6) (.tmp 51) rfl g_ (#[.int .i64 pa, .int .i64 pb, .int .i64 pc, .int .i64 pd, .int .i64 0, .int .i64 0]) (#[.int .i64 0, .int .i64 0, .int .i64 0, .int .i64 0, .int .i64 0, .int .i64 0]) 36 (by simp [Act.eval, e6]) (by simp [Act.eval, e51]) hg rfl (by kernel_rfl) (by kernel_rfl) (fun w1 k1 k2 k3 k4 => hKR _ w1 k1 k2 k3 k4)
  · intro b_ vals_ W hall hI
    have hB := hI.bel
    have v0 : vals_ 0 = .pointer (some ⟨w.heap.size, 3, none⟩) := hI.has 0 (Nat.le_of_ble_eq_true rfl) (hall 0 (Nat.le_of_ble_eq_true rfl))
    have v1 : vals_ 1 = .int .i64 d := hI.has 1 (Nat.le_of_ble_eq_true rfl) (hall 1 (Nat.le_of_ble_eq_true rfl))
    have v2 : vals_ 2 = .int .i64 4294967296 := hI.has 2 (Nat.le_of_ble_eq_true rfl) (hall 2 (Nat.le_of_ble_eq_true rfl))
    have v3 : vals_ 3 = .int .i64 (d * 4294967296) := hI.has 3 (Nat.le_of_ble_eq_true rfl) (hall 3 (Nat.le_of_ble_eq_true rfl))
    have v4 : vals_ 4 = .int .i64 D := hI.has 4 (Nat.le_of_ble_eq_true rfl) (hall 4 (Nat.le_of_ble_eq_true rfl))
    have v5 : vals_ 5 = .int .i64 pa := hI.has 5 (Nat.le_of_ble_eq_true rfl) (hall 5 (Nat.le_of_ble_eq_true rfl))
    have v6 : vals_ 6 = .pointer (some ⟨w.heap.size, 1, none⟩) := hI.has 6 (Nat.le_of_ble_eq_true rfl) (hall 6 (Nat.le_of_ble_eq_true rfl))
    have v7 : vals_ 7 = .int .i64 b := hI.has 7 (Nat.le_of_ble_eq_true rfl) (hall 7 (Nat.le_of_ble_eq_true rfl))
    have v8 : vals_ 8 = .int .i64 (-b) := hI.has 8 (Nat.le_of_ble_eq_true rfl) (hall 8 (Nat.le_of_ble_eq_true rfl))
    have v9 : vals_ 9 = .int .i64 4294967296 := hI.has 9 (Nat.le_of_ble_eq_true rfl) (hall 9 (Nat.le_of_ble_eq_true rfl))
    have v10 : vals_ 10 = .int .i64 (-b * 4294967296) := hI.has 10 (Nat.le_of_ble_eq_true rfl) (hall 10 (Nat.le_of_ble_eq_true rfl))
    have v11 : vals_ 11 = .int .i64 D := hI.has 11 (Nat.le_of_ble_eq_true rfl) (hall 11 (Nat.le_of_ble_eq_true rfl))
    have v12 : vals_ 12 = .int .i64 pb := hI.has 12 (Nat.le_of_ble_eq_true rfl) (hall 12 (Nat.le_of_ble_eq_true rfl))
    have v13 : vals_ 13 = .pointer (some ⟨w.heap.size, 2, none⟩) := hI.has 13 (Nat.le_of_ble_eq_true rfl) (hall 13 (Nat.le_of_ble_eq_true rfl))
    have v14 : vals_ 14 = .int .i64 c := hI.has 14 (Nat.le_of_ble_eq_true rfl) (hall 14 (Nat.le_of_ble_eq_true rfl))
    have v15 : vals_ 15 = .int .i64 (-c) := hI.has 15 (Nat.le_of_ble_eq_true rfl) (hall 15 (Nat.le_of_ble_eq_true rfl))
    have v16 : vals_ 16 = .int .i64 4294967296 := hI.has 16 (Nat.le_of_ble_eq_true rfl) (hall 16 (Nat.le_of_ble_eq_true rfl))
    have v17 : vals_ 17 = .int .i64 (-c * 4294967296) := hI.has 17 (Nat.le_of_ble_eq_true rfl) (hall 17 (Nat.le_of_ble_eq_true rfl))
    have v18 : vals_ 18 = .int .i64 D := hI.has 18 (Nat.le_of_ble_eq_true rfl) (hall 18 (Nat.le_of_ble_eq_true rfl))
    have v19 : vals_ 19 = .int .i64 pc := hI.has 19 (Nat.le_of_ble_eq_true rfl) (hall 19 (Nat.le_of_ble_eq_true rfl))
    have v20 : vals_ 20 = .pointer (some ⟨w.heap.size, 0, none⟩) := hI.has 20 (Nat.le_of_ble_eq_true rfl) (hall 20 (Nat.le_of_ble_eq_true rfl))
    have v21 : vals_ 21 = .int .i64 a := hI.has 21 (Nat.le_of_ble_eq_true rfl) (hall 21 (Nat.le_of_ble_eq_true rfl))
    have v22 : vals_ 22 = .int .i64 4294967296 := hI.has 22 (Nat.le_of_ble_eq_true rfl) (hall 22 (Nat.le_of_ble_eq_true rfl))
    have v23 : vals_ 23 = .int .i64 (a * 4294967296) := hI.has 23 (Nat.le_of_ble_eq_true rfl) (hall 23 (Nat.le_of_ble_eq_true rfl))
    have v24 : vals_ 24 = .int .i64 D := hI.has 24 (Nat.le_of_ble_eq_true rfl) (hall 24 (Nat.le_of_ble_eq_true rfl))
    have v25 : vals_ 25 = .int .i64 pd := hI.has 25 (Nat.le_of_ble_eq_true rfl) (hall 25 (Nat.le_of_ble_eq_true rfl))
    have v26 : vals_ 26 = .agg #[.int .i64 pa, .int .i64 pb, .int .i64 pc, .int .i64 pd, .int .i64 0, .int .i64 0] := hI.has 26 (Nat.le_of_ble_eq_true rfl) (hall 26 (Nat.le_of_ble_eq_true rfl))
    obtain ⟨g27, v27, hg27, hh27⟩ : ∃ g, vals_ 27 = .pointer (some ⟨g, 0, none⟩) ∧ w1.heap.size ≤ g ∧ W.heap[g]? = some (.cells #[.int .i64 pa, .int .i64 pb, .int .i64 pc, .int .i64 pd, .int .i64 0, .int .i64 0] 36 (0, 0)) := by
      have h := (show ∃ g, vals_ 27 = .pointer (some ⟨g, 0, none⟩) ∧ w1.heap.size ≤ g ∧ W.heap[g]? = some (.cells (if b_ 28 = true then #[.int .i64 pa, .int .i64 pb, .int .i64 pc, .int .i64 pd, .int .i64 0, .int .i64 0] else #[.int .i64 0, .int .i64 0, .int .i64 0, .int .i64 0, .int .i64 0, .int .i64 0]) 36 (0, 0)) from hI.has 27 (Nat.le_of_ble_eq_true rfl) (hall 27 (Nat.le_of_ble_eq_true rfl)))
      rw [if_pos (hall 28 (Nat.le_of_ble_eq_true rfl))] at h
      exact h
    simp only [List.length_cons, List.length_nil, Nat.zero_add, Nat.reduceAdd, List.size_toArray, slots, if_true, dstOf, List.getElem?_toArray, List.getElem?_cons_zero, List.getElem?_cons_succ, Option.bind_some, Act.put, List.setIfInBounds_toArray, List.set_cons_zero, List.set_cons_succ, v0, v1, v2, v3, v4, v5, v6, v7, v8, v9, v10, v11, v12, v13, v14, v15, v16, v17, v18, v19, v20, v21, v22, v23, v24, v25, v26, v27]
    clear hI hall v0 v1 v2 v3 v4 v5 v6 v7 v8 v9 v10 v11 v12 v13 v14 v15 v16 v17 v18 v19 v20 v21 v22 v23 v24 v25 v26 v27
    change wpAny _ _ _ _ 0 _ _ _
    refine wpAny_done (by kernel_rfl) ?_ _
    obtain ⟨g, rfl⟩ : ∃ g, g = g27 := ⟨_, rfl⟩
    have hne0 : w.heap.size < w1.heap.size := heap_lt hm
    have hne1 : w.heap.size + 1 < w1.heap.size := heap_lt hr
    have hmW := (hB.block _ (heap_lt hm)).trans hm
    have hrW := (hB.block _ (heap_lt hr)).trans hr
    have hBW := bel hBW hB
    obtain ⟨wq, rfl⟩ : ∃ wq, wq = W := ⟨_, rfl⟩
    have g1 : ¬ g = w.heap.size := by omega
    have g2 : ¬ g = w.heap.size + 1 := by omega
    have g3 : ¬ w.heap.size = g := by omega
    have g4 : ¬ w.heap.size + 1 = g := by omega
    clear hB
    have c4 := cell_of_heap hmW (j := 4) rfl
    have c5 := cell_of_heap hmW (j := 5) rfl
    have p0 := cell_of_heap hh27 (j := 0) rfl
    have r0 := cell_of_heap hrW (j := 0) rfl
    have z0_ := frozen_of_heap hrW (j := 0)
    have p1 := cell_of_heap hh27 (j := 1) rfl
    have r1 := cell_of_heap hrW (j := 1) rfl
    have z1_ := frozen_of_heap hrW (j := 1)
    have p2 := cell_of_heap hh27 (j := 2) rfl
    have r2 := cell_of_heap hrW (j := 2) rfl
    have z2_ := frozen_of_heap hrW (j := 2)
    have p3 := cell_of_heap hh27 (j := 3) rfl
    have r3 := cell_of_heap hrW (j := 3) rfl
    have z3_ := frozen_of_heap hrW (j := 3)
    have p4 := cell_of_heap hh27 (j := 4) rfl
    have r4 := cell_of_heap hrW (j := 4) rfl
    have z4_ := frozen_of_heap hrW (j := 4)
    have p5 := cell_of_heap hh27 (j := 5) rfl
    have r5 := cell_of_heap hrW (j := 5) rfl
    have z5_ := frozen_of_heap hrW (j := 5)
    have k4_ := frozen_of_heap hh27 (j := 4)
    have k5_ := frozen_of_heap hh27 (j := 5)
    have hW0 := heap_lt hmW
    have hW1 := heap_lt hrW
    have hWg := heap_lt hh27
    have hgw : w.heap.size ≤ g := by omega
    cases r : fineB pa pb pc pd 0 0 with
    | false =>
      obtain ⟨u1, rfl⟩ := HN.out r
      injection u1 with u1 u2 u3 u4 u5 u6
      subst u1 u2 u3 u4 u5 u6
      clear HN HY HA HB HC HD
      go_wp2_with (go_at_call 33; refine (fineD _ _ _ _ _ _ _).mono ?_; rintro e w2 ⟨rfl, hb⟩; (try replace hb := undrew hb); obtain ⟨hc, hf⟩ := ch hb; have hz := hb.size; (try simp only [World.size_alloc, World.size_setCell, World.size_drew] at hz); have z0 : w.heap.size < w2.heap.size := (by omega); have z1 : w.heap.size + 1 < w2.heap.size := (by omega); have zg : g < w2.heap.size := (by omega))
      exact bodyPost_ret (v := .tuple #[.agg #[.int .i64 0, .int .i64 0, .int .i64 0, .int .i64 0, .int .i64 0, .int .i64 0], .int .i64 30]) (by simp [results, Try.results37, go_sem, *]) rfl ⟨rfl, by (repeat (first | with_reducible exact Below.refl _ _ | with_reducible apply below_alloc | with_reducible apply below_drew1 | with_reducible assumption | (with_reducible refine Keep.below (by assumption)) | (with_reducible refine bel ?_ (by assumption)) | ((with_reducible refine below_set ?_ ?_); rotate_left; (focus (first | assumption | omega | (simp; done) | (simp; omega))))))⟩
    | true =>
      obtain ⟨hx, hy, hfin⟩ := HY.out r
      obtain ⟨⟨A1, A2, B1, B2, C1, C2⟩, D1, D2, _, _, _, _⟩ := fine_bd r
      clear HN HY HA HB HC HD
      have s1 := sum_bd A1 A2 B1 B2 (by omega : -8589934592 ≤ e) (by omega) (by omega : -8589934592 ≤ f) (by omega)
      have s2 := sum_bd C1 C2 D1 D2 (by omega : -8589934592 ≤ e) (by omega) (by omega : -8589934592 ≤ f) (by omega)
      have y1 := near_bd s1.1 s1.2
      have y2 := near_bd s2.1 s2.2
      rw [hx] at y1
      rw [hy] at y2
      have wx : IntKind.i64.wrap (-ex) = -ex := IntWalk.i64_in _ (by omega)
      have wy : IntKind.i64.wrap (-ey) = -ey := IntWalk.i64_in _ (by omega)
      have HX := Lib.hid hx
      have HY2 := Lib.hid hy
      have HF := Lib.hid hfin
      obtain ⟨o1, o2⟩ := mul_bd A1 A2 (by omega : -8589934592 ≤ e) (by omega : e ≤ 8589934592) (by omega) (by omega)
      obtain ⟨o3, o4⟩ := mul_bd B1 B2 (by omega : -8589934592 ≤ f) (by omega : f ≤ 8589934592) (by omega) (by omega)
      obtain ⟨o5, o6⟩ := mul_bd C1 C2 (by omega : -8589934592 ≤ e) (by omega : e ≤ 8589934592) (by omega) (by omega)
      obtain ⟨o7, o8⟩ := mul_bd D1 D2 (by omega : -8589934592 ≤ f) (by omega : f ≤ 8589934592) (by omega) (by omega)
      simp at o1 o2 o3 o4 o5 o6 o7 o8
      have n0 : IntKind.i64.wrap (pa * e) = pa * e := IntWalk.i64_in _ (by omega)
      have n1 : IntKind.i64.wrap (pb * f) = pb * f := IntWalk.i64_in _ (by omega)
      have n2 : IntKind.i64.wrap (pc * e) = pc * e := IntWalk.i64_in _ (by omega)
      have n3 : IntKind.i64.wrap (pd * f) = pd * f := IntWalk.i64_in _ (by omega)
      have n4 : IntKind.i64.wrap (pa * e + pb * f) = pa * e + pb * f := IntWalk.i64_in _ (by omega)
      have n5 : IntKind.i64.wrap (pc * e + pd * f) = pc * e + pd * f := IntWalk.i64_in _ (by omega)
      clear hx hy hfin
      go_wp2_with (first
        | (go_at_call 33; refine (fineD _ _ _ _ _ _ _).mono ?_; rintro e w2 ⟨rfl, hb⟩; (try replace hb := undrew hb); obtain ⟨hc, hf⟩ := ch hb; have hz := hb.size; (try simp only [World.size_alloc, World.size_setCell, World.size_drew] at hz); have z0 : w.heap.size < w2.heap.size := (by omega); have z1 : w.heap.size + 1 < w2.heap.size := (by omega); have zg : g < w2.heap.size := (by omega))
        | (go_at_call_of 59 (Value.int IntKind.i64 (pa * e + pb * f)); refine (nearD (pa * e + pb * f) 65536 ex _ (by omega) (by omega) (by omega) s1.1 s1.2 HX.out).mono ?_; rintro e w4 ⟨rfl, hb⟩; (try replace hb := undrew hb); obtain ⟨hc, hf⟩ := ch hb; have hz := hb.size; (try simp only [World.size_alloc, World.size_setCell, World.size_drew] at hz); have z0 : w.heap.size < w4.heap.size := (by omega); have z1 : w.heap.size + 1 < w4.heap.size := (by omega); have zg : g < w4.heap.size := (by omega))
        | (go_at_call_of 59 (Value.int IntKind.i64 (pc * e + pd * f)); refine (nearD (pc * e + pd * f) 65536 ey _ (by omega) (by omega) (by omega) s2.1 s2.2 HY2.out).mono ?_; rintro e w5 ⟨rfl, hb⟩; (try replace hb := undrew hb); obtain ⟨hc, hf⟩ := ch hb; have hz := hb.size; (try simp only [World.size_alloc, World.size_setCell, World.size_drew] at hz); have z0 : w.heap.size < w5.heap.size := (by omega); have z1 : w.heap.size + 1 < w5.heap.size := (by omega); have zg : g < w5.heap.size := (by omega))
        | (go_at_call 58; refine (HF.out _).mono ?_; rintro e w6 ⟨rfl, hb⟩; (try replace hb := undrew hb); obtain ⟨hc, hf⟩ := ch hb; have hz := hb.size; (try simp only [World.size_alloc, World.size_setCell, World.size_drew] at hz); have z0 : w.heap.size < w6.heap.size := (by omega); have z1 : w.heap.size + 1 < w6.heap.size := (by omega); have zg : g < w6.heap.size := (by omega)))
      exact bodyPost_ret (v := .tuple #[.agg #[.int .i64 x1, .int .i64 x2, .int .i64 x3, .int .i64 x4, .int .i64 x5, .int .i64 x6], .int .i64 x7]) (by simp [results, Try.results37, go_sem, *]) rfl ⟨rfl, by (repeat (first | with_reducible exact Below.refl _ _ | with_reducible apply below_alloc | with_reducible apply below_drew1 | with_reducible assumption | (with_reducible refine Keep.below (by assumption)) | (with_reducible refine bel ?_ (by assumption)) | ((with_reducible refine below_set ?_ ?_); rotate_left; (focus (first | assumption | omega | (simp; done) | (simp; omega))))))⟩

theorem back_any (m : M6) (w : World) : Calls Try.prog 36 #[m.v] w fun r w' => r = .returned (.tuple #[(backF m).1.v, .int .i64 (backF m).2]) ∧ Below w.heap.size w w' := by
  obtain ⟨a, b, c, d, e, f⟩ := m
  cases h : fineB a b c d e f with
  | false =>
    have e1 : backF ⟨a, b, c, d, e, f⟩ = (.zero, 1) := by unfold backF; rw [if_neg (by rw [M6.fine, h]; simp)]
    rw [e1]
    exact back_no a b c d e f w h
  | true =>
    have hm : M6.fine ⟨a, b, c, d, e, f⟩ = true := h
    by_cases hz : a * d - b * c = 0
    · have e1 : backF ⟨a, b, c, d, e, f⟩ = (.zero, 31) := by unfold backF; rw [if_pos hm, if_pos (show detF ⟨a, b, c, d, e, f⟩ = 0 from hz)]
      rw [e1]
      exact back_zero a b c d e f w h hz
    · have hz' : ¬ detF ⟨a, b, c, d, e, f⟩ = 0 := hz
      cases hp : fineB (nearF (d * 4294967296) (a * d - b * c)) (nearF (-b * 4294967296) (a * d - b * c)) (nearF (-c * 4294967296) (a * d - b * c)) (nearF (a * 4294967296) (a * d - b * c)) 0 0 with
      | false =>
        have e1 : backF ⟨a, b, c, d, e, f⟩ = (.zero, 30) := by
          have hp' : ¬ (backP ⟨a, b, c, d, e, f⟩ (detF ⟨a, b, c, d, e, f⟩)).fine = true := by rw [show (backP ⟨a, b, c, d, e, f⟩ (detF ⟨a, b, c, d, e, f⟩)).fine = false from hp]; simp
          unfold backF
          rw [if_pos hm, if_neg hz', if_neg hp']
        rw [e1]
        exact back_walk a b c d e f _ _ _ _ _ 0 0 0 0 0 0 0 0 30 w h rfl hz rfl rfl rfl rfl (fun _ => ⟨rfl, rfl⟩) (fun q => by rw [hp] at q; cases q)
      | true =>
        have hp' : (backP ⟨a, b, c, d, e, f⟩ (detF ⟨a, b, c, d, e, f⟩)).fine = true := hp
        have e1 : backF ⟨a, b, c, d, e, f⟩ = if (backR ⟨a, b, c, d, e, f⟩ (backP ⟨a, b, c, d, e, f⟩ (detF ⟨a, b, c, d, e, f⟩))).fine = true then (backR ⟨a, b, c, d, e, f⟩ (backP ⟨a, b, c, d, e, f⟩ (detF ⟨a, b, c, d, e, f⟩)), 0) else (.zero, 30) := by
          unfold backF
          rw [if_pos hm, if_neg hz', if_pos hp']
        rw [e1]
        by_cases g : (backR ⟨a, b, c, d, e, f⟩ (backP ⟨a, b, c, d, e, f⟩ (detF ⟨a, b, c, d, e, f⟩))).fine = true
        · rw [if_pos g]
          exact back_walk a b c d e f _ _ _ _ _ _ _ _ _ _ _ _ _ 0 w h rfl hz rfl rfl rfl rfl (fun q => by rw [hp] at q; cases q) (fun _ => ⟨rfl, rfl, fun W => mfineO _ _ _ _ _ _ _ _ _ _ _ _ _ W (if_pos g)⟩)
        · rw [if_neg g]
          exact back_walk a b c d e f _ _ _ _ _ _ _ 0 0 0 0 0 0 30 w h rfl hz rfl rfl rfl rfl (fun q => by rw [hp] at q; cases q) (fun _ => ⟨rfl, rfl, fun W => mfineO _ _ _ _ _ _ _ _ _ _ _ _ _ W (if_neg g)⟩)

theorem backD_any (m : M6) (w : World) : Calls Try.prog 37 #[m.v] w fun r w' => r = .returned (.tuple #[(backF m).1.v, .int .i64 (backF m).2]) ∧ Below w.heap.size w w' := by
  obtain ⟨a, b, c, d, e, f⟩ := m
  cases h : fineB a b c d e f with
  | false =>
    have e1 : backF ⟨a, b, c, d, e, f⟩ = (.zero, 1) := by unfold backF; rw [if_neg (by rw [M6.fine, h]; simp)]
    rw [e1]
    exact backD_no a b c d e f w h
  | true =>
    have hm : M6.fine ⟨a, b, c, d, e, f⟩ = true := h
    by_cases hz : a * d - b * c = 0
    · have e1 : backF ⟨a, b, c, d, e, f⟩ = (.zero, 31) := by unfold backF; rw [if_pos hm, if_pos (show detF ⟨a, b, c, d, e, f⟩ = 0 from hz)]
      rw [e1]
      exact backD_zero a b c d e f w h hz
    · have hz' : ¬ detF ⟨a, b, c, d, e, f⟩ = 0 := hz
      cases hp : fineB (nearF (d * 4294967296) (a * d - b * c)) (nearF (-b * 4294967296) (a * d - b * c)) (nearF (-c * 4294967296) (a * d - b * c)) (nearF (a * 4294967296) (a * d - b * c)) 0 0 with
      | false =>
        have e1 : backF ⟨a, b, c, d, e, f⟩ = (.zero, 30) := by
          have hp' : ¬ (backP ⟨a, b, c, d, e, f⟩ (detF ⟨a, b, c, d, e, f⟩)).fine = true := by rw [show (backP ⟨a, b, c, d, e, f⟩ (detF ⟨a, b, c, d, e, f⟩)).fine = false from hp]; simp
          unfold backF
          rw [if_pos hm, if_neg hz', if_neg hp']
        rw [e1]
        exact backD_walk a b c d e f _ _ _ _ _ 0 0 0 0 0 0 0 0 30 w h rfl hz rfl rfl rfl rfl (fun _ => ⟨rfl, rfl⟩) (fun q => by rw [hp] at q; cases q)
      | true =>
        have hp' : (backP ⟨a, b, c, d, e, f⟩ (detF ⟨a, b, c, d, e, f⟩)).fine = true := hp
        have e1 : backF ⟨a, b, c, d, e, f⟩ = if (backR ⟨a, b, c, d, e, f⟩ (backP ⟨a, b, c, d, e, f⟩ (detF ⟨a, b, c, d, e, f⟩))).fine = true then (backR ⟨a, b, c, d, e, f⟩ (backP ⟨a, b, c, d, e, f⟩ (detF ⟨a, b, c, d, e, f⟩)), 0) else (.zero, 30) := by
          unfold backF
          rw [if_pos hm, if_neg hz', if_pos hp']
        rw [e1]
        by_cases g : (backR ⟨a, b, c, d, e, f⟩ (backP ⟨a, b, c, d, e, f⟩ (detF ⟨a, b, c, d, e, f⟩))).fine = true
        · rw [if_pos g]
          exact backD_walk a b c d e f _ _ _ _ _ _ _ _ _ _ _ _ _ 0 w h rfl hz rfl rfl rfl rfl (fun q => by rw [hp] at q; cases q) (fun _ => ⟨rfl, rfl, fun W => mfineD _ _ _ _ _ _ _ _ _ _ _ _ _ W (if_pos g)⟩)
        · rw [if_neg g]
          exact backD_walk a b c d e f _ _ _ _ _ _ _ 0 0 0 0 0 0 30 w h rfl hz rfl rfl rfl rfl (fun q => by rw [hp] at q; cases q) (fun _ => ⟨rfl, rfl, fun W => mfineD _ _ _ _ _ _ _ _ _ _ _ _ _ W (if_neg g)⟩)
end Go.Proofs.Ytjekoaodgdodjaa
