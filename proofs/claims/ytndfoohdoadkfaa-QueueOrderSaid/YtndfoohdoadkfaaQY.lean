/- QueueTogether: the walk. -/
import Derived.Test.YtndfoohdoadkfaaQG
set_option linter.unusedVariables false
set_option linter.unusedSimpArgs false
namespace Go.Proofs.Ytndfoohdoadkfaa
open Go.RowKit
def Nz (v : Value) : Prop := v = .slice none 0 0 ∨ ∃ ad n c, v = .slice (some ad) n c
theorem rows_of (W : World) (g : Nat) (vs : List Value) (ls : List (List St)) (hg : W.heap[g]? = some (.cells vs.toArray 55 (0, 0))) (hl : vs.length = ls.length) (h : ∀ (k : Nat) (v : Value) (l : List St), vs[k]? = some v → ls[k]? = some l → Row2 W v l) (n : Nat) (hn : n = ls.length) : Rows2 W (.slice (some ⟨g, 0, none⟩) n n) ls := by
  subst hn
  refine ⟨_, _, rfl, Nat.le_refl _, fun _ => ⟨g, 0, rfl, ?_⟩⟩
  intro k ss hk
  obtain ⟨v, hv⟩ : ∃ v, vs[k]? = some v := ⟨_, List.getElem?_eq_getElem (by have := (List.getElem?_eq_some_iff.1 hk).1; omega)⟩
  exact ⟨v, by rw [Nat.zero_add]; exact cell_of_heap hg (j := k) (by simpa using hv), h k v ss hv hk⟩
theorem rows3 {W : World} {g : Nat} {u v x : Value} {a b c : List St} (hg : W.heap[g]? = some (.cells #[u, v, x] 55 (0, 0))) (h1 : Row2 W u a) (h2 : Row2 W v b) (h3 : Row2 W x c) : Rows2 W (.slice (some ⟨g, 0, none⟩) 3 3) [a, b, c] :=
  rows_of W g [u, v, x] [a, b, c] hg rfl (fun k w l e1 e2 => by
    rcases k with _ | _ | _ | k
    · injection e1 with e1
      injection e2 with e2
      subst e1 e2
      exact h1
    · injection e1 with e1
      injection e2 with e2
      subst e1 e2
      exact h2
    · injection e1 with e1
      injection e2 with e2
      subst e1 e2
      exact h3
    · simp at e1) 3 rfl
theorem rows2 {W : World} {g : Nat} {u v : Value} {a b : List St} (hg : W.heap[g]? = some (.cells #[u, v] 55 (0, 0))) (h1 : Row2 W u a) (h2 : Row2 W v b) : Rows2 W (.slice (some ⟨g, 0, none⟩) 2 2) [a, b] :=
  rows_of W g [u, v] [a, b] hg rfl (fun k w l e1 e2 => by
    rcases k with _ | _ | k
    · injection e1 with e1
      injection e2 with e2
      subst e1 e2
      exact h1
    · injection e1 with e1
      injection e2 with e2
      subst e1 e2
      exact h2
    · simp at e1) 2 rfl
theorem rows1 {W : World} {g : Nat} {u : Value} {a : List St} (hg : W.heap[g]? = some (.cells #[u] 55 (0, 0))) (h1 : Row2 W u a) : Rows2 W (.slice (some ⟨g, 0, none⟩) 1 1) [a] :=
  rows_of W g [u] [a] hg rfl (fun k w l e1 e2 => by
    rcases k with _ | k
    · injection e1 with e1
      injection e2 with e2
      subst e1 e2
      exact h1
    · simp at e1) 1 rfl
theorem own_le2 {W : World} {base n c : Nat} {A : Option Addr} {xs : List Value} (h : W.ownsRow base 34 2 (.slice A n c) n xs) : n ≤ c := by
  rcases h.2 with ⟨e, h1⟩ | ⟨g, cap, cur, e, _, _, hnc, _⟩
  · omega
  · injection e with _ _ e
    omega
theorem row_of_own {W : World} {base : Nat} {v : Value} {xs : List St} (h : W.ownsRow base 34 2 v xs.length (cellsS xs)) : Row2 W v xs := by
  obtain ⟨A, c, rfl⟩ := own_slice h
  refine ⟨A, c, rfl, own_le2 h, fun h0 => ?_⟩
  obtain ⟨g, rfl, _⟩ := own_some h h0
  exact ⟨g, 0, rfl, fun k s hk => by rw [Nat.zero_add]; exact rowS_range h hk⟩
theorem cellsS_len : ∀ l : List St, (cellsS l).length = l.length * 2
  | [] => rfl
  | x :: l => by
    have := cellsS_len l
    simp only [cellsS, List.flatMap_cons, List.length_append] at *
    rw [this]
    simp [SS]
    omega
theorem cellsS_one (l : List St) : ∀ u ∈ cellsS l, u.oneCell' = true := by
  intro u hu
  obtain ⟨s, _, hu⟩ := List.mem_flatMap.1 hu
  simp only [SS, List.mem_cons, List.not_mem_nil, or_false] at hu
  rcases hu with rfl | rfl <;> rfl
theorem cellsS_append (a b : List St) : cellsS (a ++ b) = cellsS a ++ cellsS b := by simp [cellsS]
theorem row_cells {W : World} {g o : Nat} {ss : List St} (h : ∀ k s, ss[k]? = some s → W.rangeAt g (o + k * 2) (SS s).toList) : ∀ j u, (cellsS ss)[j]? = some u → W.cell? ((⟨g, o, none⟩ : Addr).add j) = some u := by
  intro j u hj
  have hjl := (List.getElem?_eq_some_iff.1 hj).1
  rw [cellsS_len] at hjl
  have hk : ss[j / 2]? = some (ss[j / 2]'(by omega)) := List.getElem?_eq_getElem (by omega)
  have h1 := h _ _ hk (j % 2) u (by rw [← cellsS_get ss (j / 2) (j % 2) _ hk (by omega), show j / 2 * 2 + j % 2 = j by omega]; exact hj)
  rw [show o + j / 2 * 2 + j % 2 = o + j by omega] at h1
  rw [Addr.add_mid]
  exact h1
/-- append of a row of stamps that is read. -/
theorem app_rows {W : World} {base : Nat} {v u : Value} {xs ys : List St} (h : W.ownsRow base 34 2 v xs.length (cellsS xs)) (r : Row2 W u ys) (nz : Nz u) (hb : base ≤ W.heap.size) (hl : xs.length ≤ 1000000) (hl2 : ys.length ≤ 1000000) :
    ∃ v' w', (Builtin.append_ #[55, 55] 55 #[v, u]).run Try.prog W = .ok v' w' ∧ w'.ownsRow base 34 2 v' (xs ++ ys).length (cellsS (xs ++ ys)) ∧ W.grownBy w' v.ownBlock ∧ (v'.ownBlock = v.ownBlock ∨ v'.ownBlock = some W.heap.size) := by
  obtain ⟨i0, hi, hzz⟩ := Option.map_eq_some_iff.1 info34b
  simp only [Prod.mk.injEq] at hzz
  obtain ⟨hz0, hz1, hz2⟩ := hzz
  obtain ⟨A, c, rfl, hc, hr⟩ := r
  rcases nz with e | ⟨ad, n, c', e⟩
  · injection e with e1 e2 e3
    have : ys = [] := List.eq_nil_of_length_eq_zero e2
    subst this e1 e3
    exact ⟨v, W, run_append_owned_none W base 55 55 34 i0 2 Try.underlying55 hi v xs.length (cellsS xs) h, by simpa using h, World.grownBy.refl _ _, .inl rfl⟩
  · injection e with e1 e2 e3
    subst e1
    have hcells : ∀ j u, (cellsS ys)[j]? = some u → W.cell? (ad.add j) = some u := by
      intro j u hj
      have hjl := (List.getElem?_eq_some_iff.1 hj).1
      rw [cellsS_len] at hjl
      obtain ⟨g, o, e, hk⟩ := hr (by omega)
      injection e with e
      subst e
      exact row_cells hk j u hj
    obtain ⟨v', w', h1, h2, h3, h4, h5⟩ := run_append_own_at (P := Try.prog) W base 55 55 34 i0 _ 2 16 Try.underlying55 hi hz0 hz1 hz2 rfl (by omega) v xs.length (cellsS xs) h ad ys.length c (cellsS ys) (cellsS_len ys) hcells (cellsS_one ys) (by simp only [maxLen]; omega) (by omega) hb
    exact ⟨v', w', h1, by rw [cellsS_append, List.length_append]; exact h2, h3, h5⟩
theorem own_emptyS (W : World) (base : Nat) (hb : base ≤ W.heap.size) : (W.alloc (.cells #[] 34)).ownsRow base 34 2 (.slice (some ⟨W.heap.size, 0, none⟩) 0 0) ([] : List St).length (cellsS []) :=
  ⟨rfl, .inr ⟨W.heap.size, 0, #[], rfl, hb, heap_alloc_new W _, Nat.le_refl _, by simp [maxLen], rfl, rfl⟩⟩
/-- The three rows, one behind the other, in memory of their own. -/
theorem apps3 (w W : World) {va vb vc : Value} {a b c : List St} (hB : Below w.heap.size w W) (ha : Row2 w va a) (hb : Row2 w vb b) (hc : Row2 w vc c) (na : Nz va) (nb : Nz vb) (nc : Nz vc) (la : a.length ≤ 200) (lb : b.length ≤ 200) (lc : c.length ≤ 200) :
    ∃ s1 w1 s2 w2 s3 w3, (Builtin.append_ #[55, 55] 55 #[.slice (some ⟨W.heap.size, 0, none⟩) 0 0, va]).run Try.prog (W.alloc (.cells #[] 34)) = .ok s1 w1 ∧ (Builtin.append_ #[55, 55] 55 #[s1, vb]).run Try.prog w1 = .ok s2 w2 ∧ (Builtin.append_ #[55, 55] 55 #[s2, vc]).run Try.prog w2 = .ok s3 w3 ∧
      w3.ownsRow W.heap.size 34 2 s3 (a ++ b ++ c).length (cellsS (a ++ b ++ c)) ∧ Below w.heap.size w w3 ∧ Below W.heap.size W w3 := by
  have b0 := below_alloc (Below.refl W.heap.size W) (.cells #[] 34)
  have o0 := own_emptyS W W.heap.size (Nat.le_refl _)
  obtain ⟨s1, w1, r1, o1, g1, t1⟩ := app_rows (base := W.heap.size) o0 (ha.below (bel hB b0)) na (by simp) (by simp) (by omega)
  have b1 := b0.grown g1 (by simp) (fun k hk => (own_lt o0 k hk).1)
  obtain ⟨s2, w2, r2, o2, g2, t2⟩ := app_rows (base := W.heap.size) o1 (hb.below (bel hB b1)) nb b1.size (by simp; omega) (by omega)
  have b2 := b1.grown g2 b1.size (fun k hk => (own_lt o1 k hk).1)
  obtain ⟨s3, w3, r3, o3, g3, t3⟩ := app_rows (base := W.heap.size) o2 (hc.below (bel hB b2)) nc b2.size (by simp; omega) (by omega)
  have b3 := b2.grown g3 b2.size (fun k hk => (own_lt o2 k hk).1)
  exact ⟨s1, w1, s2, w2, s3, w3, r1, r2, r3, by simpa using o3, bel hB b3, b3⟩
set_option maxRecDepth 10000 in
set_option maxHeartbeats 1000000 in
theorem together_any (va vb vc : Value) (a b c : List St) (w : World) (ha : Row2 w va a) (hb : Row2 w vb b) (hc : Row2 w vc c) (na : Nz va) (nb : Nz vb) (nc : Nz vc) (la : a.length ≤ 200) (lb : b.length ≤ 200) (lc : c.length ≤ 200) :
    Calls Try.prog 7 #[va, vb, vc] w fun e w' => e = .returned (.bool true) ∧ Below w.heap.size w w' := by
  have HA := Lib.hid ha
  have HBb := Lib.hid hb
  have HCc := Lib.hid hc
  obtain ⟨Aa, ca, rfl, ka, ra⟩ := ha
  obtain ⟨Ab, cb, rfl, kb, rb⟩ := hb
  obtain ⟨Ac, cc, rfl, kc, rc⟩ := hc
  have RB := Lib.hid rb
  obtain ⟨X, hX⟩ : ∃ X, X = mergeL [a, b, c] := ⟨_, rfl⟩
  have hXl : X.length ≤ 600 := by rw [hX]; refine Nat.le_trans (merge_len _) ?_; simp; omega
  have hXR : Rise X := by rw [hX]; exact merge_rise _
  have HXM := Lib.hid (show ∀ s, s ∈ b → s ∈ X from fun s hs => by rw [hX, (merge_law _).2]; simp [hs])
  have m1 : (mergeL [b, a]).length ≤ 400 := by refine Nat.le_trans (merge_len _) ?_; simp; omega
  have HM1 := Lib.hid m1
  have mem2 : ∀ x : St, x ∈ mergeL [b, a] ↔ x ∈ b ∨ x ∈ a := fun x => by rw [(merge_law _).2]; simp
  have HY := Lib.hid (show mergeL [c, mergeL [b, a]] = X from by
    rw [hX]
    refine merge_ext fun s => ?_
    simp only [List.flatten_cons, List.flatten_nil, List.append_nil, List.mem_append, mem2]
    constructor
    · rintro (h | h | h) <;> simp [h]
    · rintro (h | h | h) <;> simp [h])
  obtain ⟨D, hD⟩ : ∃ D, D = a ++ b ++ c := ⟨_, rfl⟩
  have HD := Lib.hid hD
  have HZ := Lib.hid (show mergeL [D] = X from by
    rw [hX, hD]
    refine merge_ext fun s => ?_
    simp [or_assoc])
  have HXX := Lib.hid (show mergeL [X, X] = X from by
    conv => rhs; rw [hX]
    refine merge_ext fun s => ?_
    simp only [List.flatten_cons, List.flatten_nil, List.append_nil, List.mem_append, or_self]
    rw [hX, (merge_law _).2]
    simp)
  have F1 := Lib.hid (show [a, b, c].flatten.length ≤ 1000000 from by simp; omega)
  have F2 := Lib.hid (show [b, a].flatten.length ≤ 1000000 from by simp; omega)
  have F3 := Lib.hid (show [c, mergeL [b, a]].flatten.length ≤ 1000000 from by simp; omega)
  have F4 := Lib.hid (show [D].flatten.length ≤ 1000000 from by rw [hD]; simp; omega)
  have F5 := Lib.hid (show [X, X].flatten.length ≤ 1000000 from by simp; omega)
  have LX1 := Lib.hid (show X.length ≤ 1000000 from by omega)
  have HX0 := Lib.hid hX
  have HXL := Lib.hid hXl
  have HXR := Lib.hid hXR
  have LA := Lib.hid la
  have LB := Lib.hid lb
  have LC := Lib.hid lc
  obtain ⟨N, hN⟩ : ∃ N, N = a.length := ⟨_, rfl⟩
  obtain ⟨M, hM⟩ : ∃ M, M = b.length := ⟨_, rfl⟩
  obtain ⟨K, hK⟩ : ∃ K, K = c.length := ⟨_, rfl⟩
  have HN := Lib.hid hN
  have HM := Lib.hid hM
  have HK := Lib.hid hK
  rw [← hN] at ka la na HA ⊢
  rw [← hM] at kb lb nb HBb ⊢
  rw [← hK] at kc lc nc HCc ⊢
  obtain ⟨L, hL⟩ : ∃ L, L = X.length := ⟨_, rfl⟩
  have HL := Lib.hid hL
  clear hL hN hM hK hX hD hXl hXR m1 mem2 ra rb rc
  have g1 : ¬ (200 : Int) < (N : Int) := by omega
  have g2 : ¬ (200 : Int) < (M : Int) := by omega
  have g3 : ¬ (200 : Int) < (K : Int) := by omega
  go_enter Try.func7, Try.ntmps7
  go_wp2_with (first
    | (go_at_call 20; refine (same_any _ _ X X _ R1e.out R5e.out LX1.out LX1.out).mono ?_; rintro e w13 ⟨rfl, h13⟩; have H13 := Lib.hid (bel H12.out h13); have R1f := Lib.hid (R1e.out.below h13); clear h13 R1e R5e H12; rw [decide_eq_true (rfl : X = X)])
    | (go_at_call 24; refine (rising_any _ X _ R1f.out LX1.out).mono ?_; rintro e w14 ⟨rfl, h14⟩; have H14 := Lib.hid (bel H13.out h14); have R1g := Lib.hid (R1f.out.below h14); rw [riseB_true HXR.out]; clear h14 R1f H13)
    | (go_at_call 19; refine (merge_in w _ [X, X] _ ?hr_ F5.out (by simp) ?hb_).mono ?_; (case hr_ => exact rows2 (heap_alloc_new _ _) (R1d.out.below (below_alloc (Below.refl _ _) _)) (R1d.out.below (below_alloc (Below.refl _ _) _))); (case hb_ => exact below_alloc H11.out _); rintro e w12 ⟨v5, rfl, r5, h12, h12'⟩; rw [HXX.out] at r5; have H12 := Lib.hid h12; have R1e := Lib.hid ((R1d.out.below (below_alloc (Below.refl _ _) _)).below h12'); obtain ⟨Ax5, cx5, rfl⟩ := own_slice r5; have R5e := Lib.hid (row_of_own r5); clear h12 h12' r5 R1d H11)
    | (go_at_call 20; refine (same_any _ _ X X _ R1c.out R4c.out LX1.out LX1.out).mono ?_; rintro e w11 ⟨rfl, h11⟩; have H11 := Lib.hid (bel H10.out h11); have R1d := Lib.hid (R1c.out.below h11); clear h11 R1c R4c H10; rw [decide_eq_true (rfl : X = X)])
    | (go_at_call 20; refine (same_any _ _ X X _ R1b.out R3b.out LX1.out LX1.out).mono ?_; rintro e w10 ⟨rfl, h10⟩; have H10 := Lib.hid (bel H9.out h10); have R1c := Lib.hid (R1b.out.below h10); have R4c := Lib.hid (R4b.out.below h10); clear h10 R1b R3b R4b H9; rw [decide_eq_true (rfl : X = X)])
    | (go_at_call 19; refine (merge_in w _ [D] _ ?hr_ F4.out (by simp) ?hb_).mono ?_; (case hr_ => exact rows1 (heap_alloc_new _ _) (row_of_own (pw_own_below OR3.out (below_alloc (Below.refl _ _) _)))); (case hb_ => exact below_alloc H8.out _); rintro e w9 ⟨v4, rfl, r4, h9, h9'⟩; rw [HZ.out] at r4; have H9 := Lib.hid h9; obtain ⟨Ax4, cx4, rfl⟩ := own_slice r4; have R4b := Lib.hid (row_of_own r4); have R1b := Lib.hid ((R1a8.out.below (below_alloc (Below.refl _ _) _)).below h9'); have R3b := Lib.hid ((R38.out.below (below_alloc (Below.refl _ _) _)).below h9'); clear h9 h9' r4 R1a8 R38 OR3 H8)
    | (refine wp_append55 A3.out rfl (.tmp 43) (.tmp 44) rfl rfl (by kernel_rfl) (by kernel_rfl) ?_; clear A3)
    | (refine wp_append55 A2.out rfl (.tmp 41) (.tmp 42) rfl rfl (by kernel_rfl) (by kernel_rfl) ?_; clear A2)
    | (refine wp_append55 A1.out rfl (.tmp 39) (.tmp 40) rfl rfl (by kernel_rfl) (by kernel_rfl) ?_; clear A1)
    | (go_at_call 19; refine (merge_in w _ [c, mergeL [b, a]] _ ?hr_ F3.out (by simp) ?hb_).mono ?_; (case hr_ => exact rows2 (heap_alloc_new _ _) (HCc.out.below (below_alloc H2.out _)) (R2.out.below (below_alloc (Below.refl _ _) _))); (case hb_ => exact below_alloc H2.out _); rintro e w3 ⟨v3, rfl, r3, h3, h3'⟩; rw [HY.out] at r3; have H3 := Lib.hid h3; obtain ⟨Ax3, cx3, rfl⟩ := own_slice r3; have R3 := Lib.hid (row_of_own r3); have R1a := Lib.hid ((R1.out.below (below_alloc (Below.refl _ _) _)).below h3'); clear h3 h3' r3 R2 R1 H2; obtain ⟨s4, w5, s6, w7, s7, w8, a1, a2, a3, o3, h8, d8⟩ := apps3 w w3 (a := a) (b := b) (c := c) H3.out HA.out HBb.out HCc.out na nb nc LA.out LB.out LC.out; rw [← HD.out] at o3; obtain ⟨Ax7, cx7, rfl⟩ := own_slice o3; have A1 := Lib.hid a1; have A2 := Lib.hid a2; have A3 := Lib.hid a3; have OR3 := Lib.hid o3; have H8 := Lib.hid h8; have R1a8 := Lib.hid (R1a.out.below d8); have R38 := Lib.hid (R3.out.below d8); clear a1 a2 a3 o3 h8 d8 R1a R3 H3)
    | (go_at_call 19; refine (merge_in w _ [b, a] _ ?hr_ F2.out (by simp) ?hb_).mono ?_; (case hr_ => exact rows2 (heap_alloc_new _ _) (HBb.out.below (below_alloc H1.out _)) (HA.out.below (below_alloc H1.out _))); (case hb_ => exact below_alloc H1.out _); rintro e w2 ⟨v2, rfl, r2, h2, h2'⟩; have H2 := Lib.hid h2; obtain ⟨Ax2, cx2, rfl⟩ := own_slice r2; have R2 := Lib.hid (row_of_own r2); have R1 := Lib.hid ((R0.out.below (below_alloc (Below.refl _ _) _)).below h2'); clear h2 h2' r2 R0 H1)
    | (go_at_call 19; refine (merge_in w _ [a, b, c] _ ?hr_ F1.out (by simp) ?hb_).mono ?_; (case hr_ => exact rows3 (heap_alloc_new _ _) (HA.out.below (below_alloc (Below.refl _ _) _)) (HBb.out.below (below_alloc (Below.refl _ _) _)) (HCc.out.below (below_alloc (Below.refl _ _) _))); (case hb_ => exact below_alloc (Below.refl _ _) _); rintro e w1 ⟨v1, rfl, r1, h1, h1'⟩; rw [← HX0.out] at r1; have H1 := Lib.hid h1; obtain ⟨Ax1, cx1, rfl⟩ := own_slice r1; have R0 := Lib.hid (row_of_own r1); have OX := Lib.hid r1; clear h1 h1' r1))
  have R1g' := R1g.out
  rw [← HL.out] at R1g' ⊢
  have R1g := Lib.hid R1g'
  clear R1g'
  go_loopw [10] (fun t wr => ∃ (j : Nat), t = .int .i64 j ∧ j ≤ M ∧ Hid (Below w.heap.size w wr) ∧ Hid (Row2 wr (.slice Ax1 L cx1) X)) (fun t _ => M - (intOf t).toNat)
  case atStart => exact ⟨0, rfl, by omega, H14, R1g⟩
  case round =>
    obtain ⟨j, rfl, hj, HB1, R1h⟩ := hrel
    by_cases q : j < M
    · obtain ⟨s, hs⟩ : ∃ s, b[j]? = some s := ⟨_, List.getElem?_eq_getElem (by rw [← HM.out]; omega)⟩
      obtain ⟨g2, o2, rfl, rb⟩ := RB.out (by rw [← HM.out]; omega)
      have HY0 := Lib.hid (rb j s hs)
      have HYr := Lib.hid (range_below HB1.out HY0.out)
      have hfd := found HXR.out (HXM.out s (List.mem_of_getElem? hs))
      obtain ⟨p, hp⟩ : ∃ p, p = plc X s := ⟨_, rfl⟩
      have HP := Lib.hid hp
      have hpl : p < L := by rw [hp, HL.out]; exact (List.getElem?_eq_some_iff.1 hfd.2).1
      have HF := Lib.hid hfd
      clear hs rb hfd hp
      have hq := riseB_true HXR.out
      have HQ := Lib.hid hq
      clear hq
      go_wp2_with (first
        | (refine wpList_load_mid rfl 34 (.tmp 82) rfl g2 (o2 + j * 2) rfl (SS s).toList _ HYr.out Try.underlying34 rfl (info34 s) ?_)
        | (go_at_call 22; go_loud (refine (place_any _ X s _ R1h.out LX1.out).mono ?_; rintro e w2 ⟨rfl, h2⟩; rw [HQ.out, HF.out.1, ← HP.out]; have HB2 := Lib.hid (bel HB1.out h2); have R1j := Lib.hid (R1h.out.below h2); clear h2 HB1 R1h)))
      obtain ⟨A1, c1, e1, k1, r1⟩ := R1j.out
      injection e1 with e1 e2 e3
      subst e1 e3
      obtain ⟨g1, o1, rfl, r1x⟩ := r1 (by rw [← HL.out]; omega)
      have HX := Lib.hid (r1x p s (by rw [HP.out]; exact HF.out.2))
      have HY := Lib.hid (range_below HB2.out HY0.out)
      clear r1 r1x e2 k1
      have hge : ¬ L ≤ p := by omega
      refine drawn_st (w := w2) ([Lf.v (.bool true), Lf.v (.bool false), Lf.v (.bool false), Lf.v (.int .i64 (p : Int)), Lf.v (.bool false), Lf.v (.bool false), Lf.v (.bool false), Lf.v (.int .i64 (p : Int)), Lf.v (.slice (some ⟨g1, o1, none⟩) L cx1), Lf.v (.int .i64 (L : Int)), Lf.v (.bool false), Lf.v (.bool false), Lf.v (.bool false), Lf.v (.slice (some ⟨g1, o1, none⟩) L cx1), Lf.v (.int .i64 (p : Int)), Lf.v (.pointer (some ⟨g1, o1 + p * 2, none⟩)), Lf.v (.agg (SS s)), Lf.v (.slice (some ⟨g2, o2, none⟩) M cb), Lf.v (.int .i64 (j : Int)), Lf.v (.pointer (some ⟨g2, o2 + j * 2, none⟩)), Lf.v (.agg (SS s)), Lf.v (.bool false), Lf.v (.bool false)] : List Lf) (by kernel_rfl) (by kernel_rfl) (by kernel_rfl) (by kernel_rfl) ?_ ?_ ?_ ?_
      · intro i_ v_ hi a_ W hs ho hB
        have hl := (List.getElem?_eq_some_iff.1 hi).1
        rcases (show i_ = 0 ∨ i_ = 1 ∨ i_ = 2 ∨ i_ = 3 ∨ i_ = 4 ∨ i_ = 5 ∨ i_ = 6 ∨ i_ = 7 ∨ i_ = 8 ∨ i_ = 9 ∨ i_ = 10 ∨ i_ = 11 ∨ i_ = 12 ∨ i_ = 13 ∨ i_ = 14 ∨ i_ = 15 ∨ i_ = 16 ∨ i_ = 17 ∨ i_ = 18 ∨ i_ = 19 ∨ i_ = 20 ∨ i_ = 21 ∨ i_ = 22 by simp at hl; omega) with rfl | rfl | rfl | rfl | rfl | rfl | rfl | rfl | rfl | rfl | rfl | rfl | rfl | rfl | rfl | rfl | rfl | rfl | rfl | rfl | rfl | rfl | rfl
        · obtain rfl : (.bool true) = v_ := Lf.v.inj (Option.some.inj (show some (Lf.v (.bool true)) = some (Lf.v v_) from hi))
          clear hi hl
          have e12 : a_.tmps[12]? = some (.bool true) := (ho 12 (by kernel_rfl)).trans rfl
          refine ⟨_, rfl, fun KR hKR => ?_⟩
          rw [if_pos (show Region.wanted _ _ = true from rfl)]
          clear hs ho
          go_simp
          exact hKR _ (Below.refl _ _)
        · obtain rfl : (.bool false) = v_ := Lf.v.inj (Option.some.inj (show some (Lf.v (.bool false)) = some (Lf.v v_) from hi))
          clear hi hl
          have e87 : a_.tmps[87]? = some (.bool true) := hs 0 (by kernel_rfl) _ rfl 87 rfl
          refine ⟨_, rfl, fun KR hKR => ?_⟩
          rw [if_pos (show Region.wanted _ _ = true from rfl)]
          clear hs ho
          go_simp
          exact hKR _ (Below.refl _ _)
        · obtain rfl : (.bool false) = v_ := Lf.v.inj (Option.some.inj (show some (Lf.v (.bool false)) = some (Lf.v v_) from hi))
          clear hi hl
          have e88 : a_.tmps[88]? = some (.bool false) := hs 1 (by kernel_rfl) _ rfl 88 rfl
          refine ⟨_, rfl, fun KR hKR => ?_⟩
          rw [if_pos (show Region.wanted _ _ = true from rfl)]
          clear hs ho
          go_simp
          exact hKR _ (Below.refl _ _)
        · obtain rfl : (.int .i64 (p : Int)) = v_ := Lf.v.inj (Option.some.inj (show some (Lf.v (.int .i64 (p : Int))) = some (Lf.v v_) from hi))
          clear hi hl
          have e11 : a_.tmps[11]? = some (.int .i64 (p : Int)) := (ho 11 (by kernel_rfl)).trans rfl
          have e89 : a_.tmps[89]? = some (.bool false) := hs 2 (by kernel_rfl) _ rfl 89 rfl
          refine ⟨_, rfl, fun KR hKR => ?_⟩
          rw [if_pos (wanted_of (j := 2) (d := 89) rfl rfl e89)]
          clear e89
          clear hs ho
          go_simp
          exact hKR _ (Below.refl _ _)
        · obtain rfl : (.bool false) = v_ := Lf.v.inj (Option.some.inj (show some (Lf.v (.bool false)) = some (Lf.v v_) from hi))
          clear hi hl
          have e90 : a_.tmps[90]? = some (.int .i64 (p : Int)) := hs 3 (by kernel_rfl) _ rfl 90 rfl
          have e89 : a_.tmps[89]? = some (.bool false) := hs 2 (by kernel_rfl) _ rfl 89 rfl
          refine ⟨_, rfl, fun KR hKR => ?_⟩
          rw [if_pos (wanted_of (j := 2) (d := 89) rfl rfl e89)]
          clear e89
          clear hs ho
          go_simp
          exact hKR _ (Below.refl _ _)
        · obtain rfl : (.bool false) = v_ := Lf.v.inj (Option.some.inj (show some (Lf.v (.bool false)) = some (Lf.v v_) from hi))
          clear hi hl
          have e89 : a_.tmps[89]? = some (.bool false) := hs 2 (by kernel_rfl) _ rfl 89 rfl
          have e91 : a_.tmps[91]? = some (.bool false) := hs 4 (by kernel_rfl) _ rfl 91 rfl
          refine ⟨_, rfl, fun KR hKR => ?_⟩
          rw [if_pos (show Region.wanted _ _ = true from rfl)]
          clear hs ho
          go_simp
          exact hKR _ (Below.refl _ _)
        · obtain rfl : (.bool false) = v_ := Lf.v.inj (Option.some.inj (show some (Lf.v (.bool false)) = some (Lf.v v_) from hi))
          clear hi hl
          have e92 : a_.tmps[92]? = some (.bool false) := hs 5 (by kernel_rfl) _ rfl 92 rfl
          refine ⟨_, rfl, fun KR hKR => ?_⟩
          rw [if_pos (show Region.wanted _ _ = true from rfl)]
          clear hs ho
          go_simp
          exact hKR _ (Below.refl _ _)
        · obtain rfl : (.int .i64 (p : Int)) = v_ := Lf.v.inj (Option.some.inj (show some (Lf.v (.int .i64 (p : Int))) = some (Lf.v v_) from hi))
          clear hi hl
          have e11 : a_.tmps[11]? = some (.int .i64 (p : Int)) := (ho 11 (by kernel_rfl)).trans rfl
          have e93 : a_.tmps[93]? = some (.bool false) := hs 6 (by kernel_rfl) _ rfl 93 rfl
          refine ⟨_, rfl, fun KR hKR => ?_⟩
          rw [if_pos (wanted_of (j := 6) (d := 93) rfl rfl e93)]
          clear e93
          clear hs ho
          go_simp
          exact hKR _ (Below.refl _ _)
        · obtain rfl : (.slice (some ⟨g1, o1, none⟩) L cx1) = v_ := Lf.v.inj (Option.some.inj (show some (Lf.v (.slice (some ⟨g1, o1, none⟩) L cx1)) = some (Lf.v v_) from hi))
          clear hi hl
          have e7 : a_.tmps[7]? = some (.slice (some ⟨g1, o1, none⟩) L cx1) := (ho 7 (by kernel_rfl)).trans rfl
          have e93 : a_.tmps[93]? = some (.bool false) := hs 6 (by kernel_rfl) _ rfl 93 rfl
          refine ⟨_, rfl, fun KR hKR => ?_⟩
          rw [if_pos (wanted_of (j := 6) (d := 93) rfl rfl e93)]
          clear e93
          clear hs ho
          go_simp
          exact hKR _ (Below.refl _ _)
        · obtain rfl : (.int .i64 (L : Int)) = v_ := Lf.v.inj (Option.some.inj (show some (Lf.v (.int .i64 (L : Int))) = some (Lf.v v_) from hi))
          clear hi hl
          have e95 : a_.tmps[95]? = some (.slice (some ⟨g1, o1, none⟩) L cx1) := hs 8 (by kernel_rfl) _ rfl 95 rfl
          have e93 : a_.tmps[93]? = some (.bool false) := hs 6 (by kernel_rfl) _ rfl 93 rfl
          refine ⟨_, rfl, fun KR hKR => ?_⟩
          rw [if_pos (wanted_of (j := 6) (d := 93) rfl rfl e93)]
          clear e93
          clear hs ho
          go_simp
          exact hKR _ (Below.refl _ _)
        · obtain rfl : (.bool false) = v_ := Lf.v.inj (Option.some.inj (show some (Lf.v (.bool false)) = some (Lf.v v_) from hi))
          clear hi hl
          have e94 : a_.tmps[94]? = some (.int .i64 (p : Int)) := hs 7 (by kernel_rfl) _ rfl 94 rfl
          have e96 : a_.tmps[96]? = some (.int .i64 (L : Int)) := hs 9 (by kernel_rfl) _ rfl 96 rfl
          have e93 : a_.tmps[93]? = some (.bool false) := hs 6 (by kernel_rfl) _ rfl 93 rfl
          refine ⟨_, rfl, fun KR hKR => ?_⟩
          rw [if_pos (wanted_of (j := 6) (d := 93) rfl rfl e93)]
          clear e93
          clear hs ho
          go_simp
          exact hKR _ (Below.refl _ _)
        · obtain rfl : (.bool false) = v_ := Lf.v.inj (Option.some.inj (show some (Lf.v (.bool false)) = some (Lf.v v_) from hi))
          clear hi hl
          have e93 : a_.tmps[93]? = some (.bool false) := hs 6 (by kernel_rfl) _ rfl 93 rfl
          have e97 : a_.tmps[97]? = some (.bool false) := hs 10 (by kernel_rfl) _ rfl 97 rfl
          refine ⟨_, rfl, fun KR hKR => ?_⟩
          rw [if_pos (show Region.wanted _ _ = true from rfl)]
          clear hs ho
          go_simp
          exact hKR _ (Below.refl _ _)
        · obtain rfl : (.bool false) = v_ := Lf.v.inj (Option.some.inj (show some (Lf.v (.bool false)) = some (Lf.v v_) from hi))
          clear hi hl
          have e98 : a_.tmps[98]? = some (.bool false) := hs 11 (by kernel_rfl) _ rfl 98 rfl
          refine ⟨_, rfl, fun KR hKR => ?_⟩
          rw [if_pos (show Region.wanted _ _ = true from rfl)]
          clear hs ho
          go_simp
          exact hKR _ (Below.refl _ _)
        · obtain rfl : (.slice (some ⟨g1, o1, none⟩) L cx1) = v_ := Lf.v.inj (Option.some.inj (show some (Lf.v (.slice (some ⟨g1, o1, none⟩) L cx1)) = some (Lf.v v_) from hi))
          clear hi hl
          have e7 : a_.tmps[7]? = some (.slice (some ⟨g1, o1, none⟩) L cx1) := (ho 7 (by kernel_rfl)).trans rfl
          have e99 : a_.tmps[99]? = some (.bool false) := hs 12 (by kernel_rfl) _ rfl 99 rfl
          refine ⟨_, rfl, fun KR hKR => ?_⟩
          rw [if_pos (wanted_of (j := 12) (d := 99) rfl rfl e99)]
          clear e99
          clear hs ho
          go_simp
          exact hKR _ (Below.refl _ _)
        · obtain rfl : (.int .i64 (p : Int)) = v_ := Lf.v.inj (Option.some.inj (show some (Lf.v (.int .i64 (p : Int))) = some (Lf.v v_) from hi))
          clear hi hl
          have e11 : a_.tmps[11]? = some (.int .i64 (p : Int)) := (ho 11 (by kernel_rfl)).trans rfl
          have e99 : a_.tmps[99]? = some (.bool false) := hs 12 (by kernel_rfl) _ rfl 99 rfl
          refine ⟨_, rfl, fun KR hKR => ?_⟩
          rw [if_pos (wanted_of (j := 12) (d := 99) rfl rfl e99)]
          clear e99
          clear hs ho
          go_simp
          exact hKR _ (Below.refl _ _)
        · obtain rfl : (.pointer (some ⟨g1, o1 + p * 2, none⟩)) = v_ := Lf.v.inj (Option.some.inj (show some (Lf.v (.pointer (some ⟨g1, o1 + p * 2, none⟩))) = some (Lf.v v_) from hi))
          clear hi hl
          have e100 : a_.tmps[100]? = some (.slice (some ⟨g1, o1, none⟩) L cx1) := hs 13 (by kernel_rfl) _ rfl 100 rfl
          have e101 : a_.tmps[101]? = some (.int .i64 (p : Int)) := hs 14 (by kernel_rfl) _ rfl 101 rfl
          have e99 : a_.tmps[99]? = some (.bool false) := hs 12 (by kernel_rfl) _ rfl 99 rfl
          refine ⟨_, rfl, fun KR hKR => ?_⟩
          rw [if_pos (wanted_of (j := 12) (d := 99) rfl rfl e99)]
          clear e99
          clear hs ho
          go_simp
          exact hKR _ (Below.refl _ _)
        · obtain rfl : (.agg (SS s)) = v_ := Lf.v.inj (Option.some.inj (show some (Lf.v (.agg (SS s))) = some (Lf.v v_) from hi))
          clear hi hl
          have e102 : a_.tmps[102]? = some (.pointer (some ⟨g1, o1 + p * 2, none⟩)) := hs 15 (by kernel_rfl) _ rfl 102 rfl
          have e99 : a_.tmps[99]? = some (.bool false) := hs 12 (by kernel_rfl) _ rfl 99 rfl
          refine ⟨_, rfl, fun KR hKR => ?_⟩
          rw [if_pos (wanted_of (j := 12) (d := 99) rfl rfl e99)]
          clear e99
          clear hs ho
          (refine wp_load_mid 34 (.tmp 102) rfl g1 (o1 + p * 2) (by simp [Act.eval, e102]) (SS s).toList _ (range_below hB HX.out) Try.underlying34 rfl (info34 _) ?_; exact hKR _ (Below.refl _ _))
        · obtain rfl : (.slice (some ⟨g2, o2, none⟩) M cb) = v_ := Lf.v.inj (Option.some.inj (show some (Lf.v (.slice (some ⟨g2, o2, none⟩) M cb)) = some (Lf.v v_) from hi))
          clear hi hl
          have e1 : a_.tmps[1]? = some (.slice (some ⟨g2, o2, none⟩) M cb) := (ho 1 (by kernel_rfl)).trans rfl
          have e99 : a_.tmps[99]? = some (.bool false) := hs 12 (by kernel_rfl) _ rfl 99 rfl
          refine ⟨_, rfl, fun KR hKR => ?_⟩
          rw [if_pos (wanted_of (j := 12) (d := 99) rfl rfl e99)]
          clear e99
          clear hs ho
          go_simp
          exact hKR _ (Below.refl _ _)
        · obtain rfl : (.int .i64 (j : Int)) = v_ := Lf.v.inj (Option.some.inj (show some (Lf.v (.int .i64 (j : Int))) = some (Lf.v v_) from hi))
          clear hi hl
          have e10 : a_.tmps[10]? = some (.int .i64 (j : Int)) := (ho 10 (by kernel_rfl)).trans rfl
          have e99 : a_.tmps[99]? = some (.bool false) := hs 12 (by kernel_rfl) _ rfl 99 rfl
          refine ⟨_, rfl, fun KR hKR => ?_⟩
          rw [if_pos (wanted_of (j := 12) (d := 99) rfl rfl e99)]
          clear e99
          clear hs ho
          go_simp
          exact hKR _ (Below.refl _ _)
        · obtain rfl : (.pointer (some ⟨g2, o2 + j * 2, none⟩)) = v_ := Lf.v.inj (Option.some.inj (show some (Lf.v (.pointer (some ⟨g2, o2 + j * 2, none⟩))) = some (Lf.v v_) from hi))
          clear hi hl
          have e104 : a_.tmps[104]? = some (.slice (some ⟨g2, o2, none⟩) M cb) := hs 17 (by kernel_rfl) _ rfl 104 rfl
          have e105 : a_.tmps[105]? = some (.int .i64 (j : Int)) := hs 18 (by kernel_rfl) _ rfl 105 rfl
          have e99 : a_.tmps[99]? = some (.bool false) := hs 12 (by kernel_rfl) _ rfl 99 rfl
          refine ⟨_, rfl, fun KR hKR => ?_⟩
          rw [if_pos (wanted_of (j := 12) (d := 99) rfl rfl e99)]
          clear e99
          clear hs ho
          go_simp
          exact hKR _ (Below.refl _ _)
        · obtain rfl : (.agg (SS s)) = v_ := Lf.v.inj (Option.some.inj (show some (Lf.v (.agg (SS s))) = some (Lf.v v_) from hi))
          clear hi hl
          have e106 : a_.tmps[106]? = some (.pointer (some ⟨g2, o2 + j * 2, none⟩)) := hs 19 (by kernel_rfl) _ rfl 106 rfl
          have e99 : a_.tmps[99]? = some (.bool false) := hs 12 (by kernel_rfl) _ rfl 99 rfl
          refine ⟨_, rfl, fun KR hKR => ?_⟩
          rw [if_pos (wanted_of (j := 12) (d := 99) rfl rfl e99)]
          clear e99
          clear hs ho
          (refine wp_load_mid 34 (.tmp 106) rfl g2 (o2 + j * 2) (by simp [Act.eval, e106]) (SS s).toList _ (range_below hB HY.out) Try.underlying34 rfl (info34 _) ?_; exact hKR _ (Below.refl _ _))
        · obtain rfl : (.bool false) = v_ := Lf.v.inj (Option.some.inj (show some (Lf.v (.bool false)) = some (Lf.v v_) from hi))
          clear hi hl
          have e103 : a_.tmps[103]? = some (.agg (SS s)) := hs 16 (by kernel_rfl) _ rfl 103 rfl
          have e107 : a_.tmps[107]? = some (.agg (SS s)) := hs 20 (by kernel_rfl) _ rfl 107 rfl
          have e99 : a_.tmps[99]? = some (.bool false) := hs 12 (by kernel_rfl) _ rfl 99 rfl
          refine ⟨_, rfl, fun KR hKR => ?_⟩
          rw [if_pos (wanted_of (j := 12) (d := 99) rfl rfl e99)]
          clear e99
          clear hs ho
          (refine wp_of_run (exec_neq34s (p := s) (q := s) rfl (by simp [Act.eval, e103]) (by simp [Act.eval, e107]) rfl) ?_; exact hKR _ (Below.refl _ _))
        · obtain rfl : (.bool false) = v_ := Lf.v.inj (Option.some.inj (show some (Lf.v (.bool false)) = some (Lf.v v_) from hi))
          clear hi hl
          have e99 : a_.tmps[99]? = some (.bool false) := hs 12 (by kernel_rfl) _ rfl 99 rfl
          have e108 : a_.tmps[108]? = some (.bool false) := hs 21 (by kernel_rfl) _ rfl 108 rfl
          refine ⟨_, rfl, fun KR hKR => ?_⟩
          rw [if_pos (show Region.wanted _ _ = true from rfl)]
          clear hs ho
          go_simp
          exact hKR _ (Below.refl _ _)
      · intro i_ T_ Z_ S_ k_ hi a_ W
        have hl := (List.getElem?_eq_some_iff.1 hi).1
        rcases (show i_ = 0 ∨ i_ = 1 ∨ i_ = 2 ∨ i_ = 3 ∨ i_ = 4 ∨ i_ = 5 ∨ i_ = 6 ∨ i_ = 7 ∨ i_ = 8 ∨ i_ = 9 ∨ i_ = 10 ∨ i_ = 11 ∨ i_ = 12 ∨ i_ = 13 ∨ i_ = 14 ∨ i_ = 15 ∨ i_ = 16 ∨ i_ = 17 ∨ i_ = 18 ∨ i_ = 19 ∨ i_ = 20 ∨ i_ = 21 ∨ i_ = 22 by simp at hl; omega) with rfl | rfl | rfl | rfl | rfl | rfl | rfl | rfl | rfl | rfl | rfl | rfl | rfl | rfl | rfl | rfl | rfl | rfl | rfl | rfl | rfl | rfl | rfl
        · exact Lf.noConfusion (Option.some.inj (show some (Lf.v (.bool true)) = some (Lf.nw T_ Z_ S_ k_) from hi))
        · exact Lf.noConfusion (Option.some.inj (show some (Lf.v (.bool false)) = some (Lf.nw T_ Z_ S_ k_) from hi))
        · exact Lf.noConfusion (Option.some.inj (show some (Lf.v (.bool false)) = some (Lf.nw T_ Z_ S_ k_) from hi))
        · exact Lf.noConfusion (Option.some.inj (show some (Lf.v (.int .i64 (p : Int))) = some (Lf.nw T_ Z_ S_ k_) from hi))
        · exact Lf.noConfusion (Option.some.inj (show some (Lf.v (.bool false)) = some (Lf.nw T_ Z_ S_ k_) from hi))
        · exact Lf.noConfusion (Option.some.inj (show some (Lf.v (.bool false)) = some (Lf.nw T_ Z_ S_ k_) from hi))
        · exact Lf.noConfusion (Option.some.inj (show some (Lf.v (.bool false)) = some (Lf.nw T_ Z_ S_ k_) from hi))
        · exact Lf.noConfusion (Option.some.inj (show some (Lf.v (.int .i64 (p : Int))) = some (Lf.nw T_ Z_ S_ k_) from hi))
        · exact Lf.noConfusion (Option.some.inj (show some (Lf.v (.slice (some ⟨g1, o1, none⟩) L cx1)) = some (Lf.nw T_ Z_ S_ k_) from hi))
        · exact Lf.noConfusion (Option.some.inj (show some (Lf.v (.int .i64 (L : Int))) = some (Lf.nw T_ Z_ S_ k_) from hi))
        · exact Lf.noConfusion (Option.some.inj (show some (Lf.v (.bool false)) = some (Lf.nw T_ Z_ S_ k_) from hi))
        · exact Lf.noConfusion (Option.some.inj (show some (Lf.v (.bool false)) = some (Lf.nw T_ Z_ S_ k_) from hi))
        · exact Lf.noConfusion (Option.some.inj (show some (Lf.v (.bool false)) = some (Lf.nw T_ Z_ S_ k_) from hi))
        · exact Lf.noConfusion (Option.some.inj (show some (Lf.v (.slice (some ⟨g1, o1, none⟩) L cx1)) = some (Lf.nw T_ Z_ S_ k_) from hi))
        · exact Lf.noConfusion (Option.some.inj (show some (Lf.v (.int .i64 (p : Int))) = some (Lf.nw T_ Z_ S_ k_) from hi))
        · exact Lf.noConfusion (Option.some.inj (show some (Lf.v (.pointer (some ⟨g1, o1 + p * 2, none⟩))) = some (Lf.nw T_ Z_ S_ k_) from hi))
        · exact Lf.noConfusion (Option.some.inj (show some (Lf.v (.agg (SS s))) = some (Lf.nw T_ Z_ S_ k_) from hi))
        · exact Lf.noConfusion (Option.some.inj (show some (Lf.v (.slice (some ⟨g2, o2, none⟩) M cb)) = some (Lf.nw T_ Z_ S_ k_) from hi))
        · exact Lf.noConfusion (Option.some.inj (show some (Lf.v (.int .i64 (j : Int))) = some (Lf.nw T_ Z_ S_ k_) from hi))
        · exact Lf.noConfusion (Option.some.inj (show some (Lf.v (.pointer (some ⟨g2, o2 + j * 2, none⟩))) = some (Lf.nw T_ Z_ S_ k_) from hi))
        · exact Lf.noConfusion (Option.some.inj (show some (Lf.v (.agg (SS s))) = some (Lf.nw T_ Z_ S_ k_) from hi))
        · exact Lf.noConfusion (Option.some.inj (show some (Lf.v (.bool false)) = some (Lf.nw T_ Z_ S_ k_) from hi))
        · exact Lf.noConfusion (Option.some.inj (show some (Lf.v (.bool false)) = some (Lf.nw T_ Z_ S_ k_) from hi))
      · intro i_ m_ T_ Z_ S_ hi hm_ a_ W g_ hp_ hg hs
        have hl := (List.getElem?_eq_some_iff.1 hi).1
        rcases (show i_ = 0 ∨ i_ = 1 ∨ i_ = 2 ∨ i_ = 3 ∨ i_ = 4 ∨ i_ = 5 ∨ i_ = 6 ∨ i_ = 7 ∨ i_ = 8 ∨ i_ = 9 ∨ i_ = 10 ∨ i_ = 11 ∨ i_ = 12 ∨ i_ = 13 ∨ i_ = 14 ∨ i_ = 15 ∨ i_ = 16 ∨ i_ = 17 ∨ i_ = 18 ∨ i_ = 19 ∨ i_ = 20 ∨ i_ = 21 ∨ i_ = 22 by simp at hl; omega) with rfl | rfl | rfl | rfl | rfl | rfl | rfl | rfl | rfl | rfl | rfl | rfl | rfl | rfl | rfl | rfl | rfl | rfl | rfl | rfl | rfl | rfl | rfl
        · exact Lf.noConfusion (Option.some.inj (show some (Lf.v (.bool true)) = some (Lf.st m_) from hi))
        · exact Lf.noConfusion (Option.some.inj (show some (Lf.v (.bool false)) = some (Lf.st m_) from hi))
        · exact Lf.noConfusion (Option.some.inj (show some (Lf.v (.bool false)) = some (Lf.st m_) from hi))
        · exact Lf.noConfusion (Option.some.inj (show some (Lf.v (.int .i64 (p : Int))) = some (Lf.st m_) from hi))
        · exact Lf.noConfusion (Option.some.inj (show some (Lf.v (.bool false)) = some (Lf.st m_) from hi))
        · exact Lf.noConfusion (Option.some.inj (show some (Lf.v (.bool false)) = some (Lf.st m_) from hi))
        · exact Lf.noConfusion (Option.some.inj (show some (Lf.v (.bool false)) = some (Lf.st m_) from hi))
        · exact Lf.noConfusion (Option.some.inj (show some (Lf.v (.int .i64 (p : Int))) = some (Lf.st m_) from hi))
        · exact Lf.noConfusion (Option.some.inj (show some (Lf.v (.slice (some ⟨g1, o1, none⟩) L cx1)) = some (Lf.st m_) from hi))
        · exact Lf.noConfusion (Option.some.inj (show some (Lf.v (.int .i64 (L : Int))) = some (Lf.st m_) from hi))
        · exact Lf.noConfusion (Option.some.inj (show some (Lf.v (.bool false)) = some (Lf.st m_) from hi))
        · exact Lf.noConfusion (Option.some.inj (show some (Lf.v (.bool false)) = some (Lf.st m_) from hi))
        · exact Lf.noConfusion (Option.some.inj (show some (Lf.v (.bool false)) = some (Lf.st m_) from hi))
        · exact Lf.noConfusion (Option.some.inj (show some (Lf.v (.slice (some ⟨g1, o1, none⟩) L cx1)) = some (Lf.st m_) from hi))
        · exact Lf.noConfusion (Option.some.inj (show some (Lf.v (.int .i64 (p : Int))) = some (Lf.st m_) from hi))
        · exact Lf.noConfusion (Option.some.inj (show some (Lf.v (.pointer (some ⟨g1, o1 + p * 2, none⟩))) = some (Lf.st m_) from hi))
        · exact Lf.noConfusion (Option.some.inj (show some (Lf.v (.agg (SS s))) = some (Lf.st m_) from hi))
        · exact Lf.noConfusion (Option.some.inj (show some (Lf.v (.slice (some ⟨g2, o2, none⟩) M cb)) = some (Lf.st m_) from hi))
        · exact Lf.noConfusion (Option.some.inj (show some (Lf.v (.int .i64 (j : Int))) = some (Lf.st m_) from hi))
        · exact Lf.noConfusion (Option.some.inj (show some (Lf.v (.pointer (some ⟨g2, o2 + j * 2, none⟩))) = some (Lf.st m_) from hi))
        · exact Lf.noConfusion (Option.some.inj (show some (Lf.v (.agg (SS s))) = some (Lf.st m_) from hi))
        · exact Lf.noConfusion (Option.some.inj (show some (Lf.v (.bool false)) = some (Lf.st m_) from hi))
        · exact Lf.noConfusion (Option.some.inj (show some (Lf.v (.bool false)) = some (Lf.st m_) from hi))
      · intro b_ vals_ W hall hI
        have hB := hI.bel
        have v0 : vals_ 0 = .bool true := hI.has 0 (Nat.le_of_ble_eq_true rfl) (hall 0 (Nat.le_of_ble_eq_true rfl))
        have v1 : vals_ 1 = .bool false := hI.has 1 (Nat.le_of_ble_eq_true rfl) (hall 1 (Nat.le_of_ble_eq_true rfl))
        have v2 : vals_ 2 = .bool false := hI.has 2 (Nat.le_of_ble_eq_true rfl) (hall 2 (Nat.le_of_ble_eq_true rfl))
        have v3 : vals_ 3 = .int .i64 (p : Int) := hI.has 3 (Nat.le_of_ble_eq_true rfl) (hall 3 (Nat.le_of_ble_eq_true rfl))
        have v4 : vals_ 4 = .bool false := hI.has 4 (Nat.le_of_ble_eq_true rfl) (hall 4 (Nat.le_of_ble_eq_true rfl))
        have v5 : vals_ 5 = .bool false := hI.has 5 (Nat.le_of_ble_eq_true rfl) (hall 5 (Nat.le_of_ble_eq_true rfl))
        have v6 : vals_ 6 = .bool false := hI.has 6 (Nat.le_of_ble_eq_true rfl) (hall 6 (Nat.le_of_ble_eq_true rfl))
        have v7 : vals_ 7 = .int .i64 (p : Int) := hI.has 7 (Nat.le_of_ble_eq_true rfl) (hall 7 (Nat.le_of_ble_eq_true rfl))
        have v8 : vals_ 8 = .slice (some ⟨g1, o1, none⟩) L cx1 := hI.has 8 (Nat.le_of_ble_eq_true rfl) (hall 8 (Nat.le_of_ble_eq_true rfl))
        have v9 : vals_ 9 = .int .i64 (L : Int) := hI.has 9 (Nat.le_of_ble_eq_true rfl) (hall 9 (Nat.le_of_ble_eq_true rfl))
        have v10 : vals_ 10 = .bool false := hI.has 10 (Nat.le_of_ble_eq_true rfl) (hall 10 (Nat.le_of_ble_eq_true rfl))
        have v11 : vals_ 11 = .bool false := hI.has 11 (Nat.le_of_ble_eq_true rfl) (hall 11 (Nat.le_of_ble_eq_true rfl))
        have v12 : vals_ 12 = .bool false := hI.has 12 (Nat.le_of_ble_eq_true rfl) (hall 12 (Nat.le_of_ble_eq_true rfl))
        have v13 : vals_ 13 = .slice (some ⟨g1, o1, none⟩) L cx1 := hI.has 13 (Nat.le_of_ble_eq_true rfl) (hall 13 (Nat.le_of_ble_eq_true rfl))
        have v14 : vals_ 14 = .int .i64 (p : Int) := hI.has 14 (Nat.le_of_ble_eq_true rfl) (hall 14 (Nat.le_of_ble_eq_true rfl))
        have v15 : vals_ 15 = .pointer (some ⟨g1, o1 + p * 2, none⟩) := hI.has 15 (Nat.le_of_ble_eq_true rfl) (hall 15 (Nat.le_of_ble_eq_true rfl))
        have v16 : vals_ 16 = .agg (SS s) := hI.has 16 (Nat.le_of_ble_eq_true rfl) (hall 16 (Nat.le_of_ble_eq_true rfl))
        have v17 : vals_ 17 = .slice (some ⟨g2, o2, none⟩) M cb := hI.has 17 (Nat.le_of_ble_eq_true rfl) (hall 17 (Nat.le_of_ble_eq_true rfl))
        have v18 : vals_ 18 = .int .i64 (j : Int) := hI.has 18 (Nat.le_of_ble_eq_true rfl) (hall 18 (Nat.le_of_ble_eq_true rfl))
        have v19 : vals_ 19 = .pointer (some ⟨g2, o2 + j * 2, none⟩) := hI.has 19 (Nat.le_of_ble_eq_true rfl) (hall 19 (Nat.le_of_ble_eq_true rfl))
        have v20 : vals_ 20 = .agg (SS s) := hI.has 20 (Nat.le_of_ble_eq_true rfl) (hall 20 (Nat.le_of_ble_eq_true rfl))
        have v21 : vals_ 21 = .bool false := hI.has 21 (Nat.le_of_ble_eq_true rfl) (hall 21 (Nat.le_of_ble_eq_true rfl))
        have v22 : vals_ 22 = .bool false := hI.has 22 (Nat.le_of_ble_eq_true rfl) (hall 22 (Nat.le_of_ble_eq_true rfl))
        simp only [List.length_cons, List.length_nil, Nat.zero_add, Nat.reduceAdd, List.size_toArray, slots, if_true, dstOf, List.getElem?_toArray, List.getElem?_cons_zero, List.getElem?_cons_succ, Option.bind_some, Act.put, List.setIfInBounds_toArray, List.set_cons_zero, List.set_cons_succ, v0, v1, v2, v3, v4, v5, v6, v7, v8, v9, v10, v11, v12, v13, v14, v15, v16, v17, v18, v19, v20, v21, v22]
        clear hI hall v0 v1 v2 v3 v4 v5 v6 v7 v8 v9 v10 v11 v12 v13 v14 v15 v16 v17 v18 v19 v20 v21 v22
        change wpAny _ _ _ _ 0 _ _ _
        refine wpAny_done (by kernel_rfl) ?_ _
        have HB3 := Lib.hid (bel HB2.out hB)
        have R1k := Lib.hid (R1j.out.below hB)
        clear hB
        go_wp2
        go_roundw
        case rel => exact ⟨j + 1, by go_num, by omega, HB3, R1k⟩
        case measure =>
          simp [intOf]
          omega
    · obtain rfl : j = M := by omega
      go_wp2_with (go_at_call 8; refine (knows_is _).mono ?_; rintro e w2 ⟨rfl, hb⟩)
      go_ret
      exact ⟨rfl, bel HB1.out hb⟩
end Go.Proofs.Ytndfoohdoadkfaa
