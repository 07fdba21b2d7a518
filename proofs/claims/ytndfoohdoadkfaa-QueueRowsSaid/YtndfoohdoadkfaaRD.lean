/- The law's helper Rows; the document's Merge answers as the program's. -/
import Derived.Test.YtndfoohdoadkfaaRC
set_option linter.unusedVariables false
set_option linter.unusedSimpArgs false
namespace Go.Proofs.Ytndfoohdoadkfaa
open Go.RowKit
/-- A row of rows, each in memory of its own. -/
def RowsO (W : World) (base : Nat) (p : Value) (ls : List (List St)) (vs : List Value) : Prop :=
  W.ownsRow base 55 1 p ls.length vs ∧ vs.length = ls.length ∧ ∀ (k : Nat) (u : Value) (l : List St), vs[k]? = some u → ls[k]? = some l → W.ownsRow base 34 2 u l.length (cellsS l)
theorem RowsO.below {W W' : World} {base : Nat} {p : Value} {ls : List (List St)} {vs : List Value} (h : RowsO W base p ls vs) (hb : Below W.heap.size W W') : RowsO W' base p ls vs :=
  ⟨pw_own_below h.1 hb, h.2.1, fun k u l h1 h2 => pw_own_below (h.2.2 k u l h1 h2) hb⟩
theorem own_cell {W : World} {base n c : Nat} {T : TypeId} {A : Option Addr} {vs : List Value} (h : W.ownsRow base T 1 (.slice A n c) n vs) {k : Nat} {u : Value} (hk : vs[k]? = some u) : ∃ g, A = some ⟨g, 0, none⟩ ∧ W.cell? ⟨g, k, none⟩ = some u := by
  have hl := (List.getElem?_eq_some_iff.1 hk).1
  have h1 := h.1
  obtain ⟨g, rfl, _⟩ := own_some h (by omega)
  refine ⟨g, rfl, ?_⟩
  have := h.cells (g := g) rfl k u hk
  rw [Addr.add_mid] at this
  simpa using this
theorem RowsO.read {W : World} {base : Nat} {p : Value} {ls : List (List St)} {vs : List Value} (h : RowsO W base p ls vs) : Rows2 W p ls := by
  obtain ⟨h1, h2, h3⟩ := h
  obtain ⟨A, c, rfl⟩ := own_slice h1
  have hle : ls.length ≤ c := by
    rcases h1.2 with ⟨e, h0⟩ | ⟨g, cap, cur, e, _, _, hnc, _⟩
    · omega
    · injection e with _ _ e
      omega
  refine ⟨A, c, rfl, hle, fun h0 => ?_⟩
  obtain ⟨g, rfl, _⟩ := own_some h1 h0
  refine ⟨g, 0, rfl, fun k l hk => ?_⟩
  obtain ⟨u, hu⟩ : ∃ u, vs[k]? = some u := ⟨_, List.getElem?_eq_getElem (by have := (List.getElem?_eq_some_iff.1 hk).1; omega)⟩
  obtain ⟨g', e, hc⟩ := own_cell h1 hu
  injection e with e
  injection e with e
  subst e
  exact ⟨u, by rw [Nat.zero_add]; exact hc, row_of_own (h3 k u l hu hk)⟩
theorem own_ne {W : World} {b b' n m : Nat} {u p : Value} {xs ys : List Value} (h : W.ownsRow b 34 2 u n xs) (k : W.ownsRow b' 55 1 p m ys) : u.ownBlock = none ∨ u.ownBlock ≠ p.ownBlock := by
  rcases h.2 with ⟨rfl, _⟩ | ⟨g, c, cur, rfl, _, hg, _⟩
  · exact .inl rfl
  · right
    rcases k.2 with ⟨rfl, _⟩ | ⟨g', c', cur', rfl, _, hg', _⟩
    · simp [Value.ownBlock]
    · intro e
      have e' : g = g' := by simpa [Value.ownBlock] using e
      subst e'
      rw [hg] at hg'
      injection hg' with hg'
      injection hg' with _ hg' _
      cases hg'
theorem info55b : (Try.prog.info? 55).map (fun i => (i.zero, i.size, i.bytes)) = some (some (.slice none 0 0), 1, 24) := by kernel_rfl
theorem app_row54 {W : World} {base g : Nat} {p s1 : Value} {vs : List Value} {n : Nat} {T : TypeId} (h : W.ownsRow base 55 1 p n vs) (hg : W.heap[g]? = some (.cells #[s1] T (0, 0))) (h1 : s1.oneCell' = true) (hb : base ≤ W.heap.size) (hl : n ≤ 2000000) :
    ∃ p' W', (Builtin.append_ #[54, 54] 54 #[p, .slice (some ⟨g, 0, none⟩) 1 1]).run Try.prog W = .ok p' W' ∧ W'.ownsRow base 55 1 p' (n + 1) (vs ++ [s1]) ∧ W.grownBy W' p.ownBlock := by
  obtain ⟨i0, hi, hzz⟩ := Option.map_eq_some_iff.1 info55b
  simp only [Prod.mk.injEq] at hzz
  obtain ⟨hz0, hz1, hz2⟩ := hzz
  obtain ⟨v', w', h1, h2, h3, h4, h5⟩ := run_append_own_at (P := Try.prog) W base 54 54 55 i0 _ 1 24 Try.underlying54 hi hz0 hz1 hz2 rfl (by omega) p n vs h ⟨g, 0, none⟩ 1 1 [s1] rfl (fun j u hu => by
    rcases j with _ | j
    · exact cell_of_heap hg (j := 0) hu
    · simp at hu) (fun u hu => by
    rw [List.mem_singleton] at hu
    subst hu
    exact h1) (by simp only [maxLen]; omega) (by omega) hb
  exact ⟨v', w', h1, h2, h3⟩
theorem rows_step {W : World} {base : Nat} {p u : Value} {ls : List (List St)} {vs : List Value} {l : List St} (h : RowsO W base p ls vs) (hu : Row2 W u l) (nz : Nz u) (hb : base ≤ W.heap.size) (hl : l.length ≤ 1000000) (hn : ls.length ≤ 1000000) :
    ∃ s1 W2 p' W4, (∃ B1 c1, s1 = .slice B1 l.length c1) ∧ (Builtin.append_ #[55, 55] 55 #[.slice (some ⟨W.heap.size, 0, none⟩) 0 0, u]).run Try.prog (W.alloc (.cells #[] 34)) = .ok s1 W2 ∧ (Builtin.append_ #[54, 54] 54 #[p, .slice (some ⟨W2.heap.size, 0, none⟩) 1 1]).run Try.prog (W2.alloc (.cells #[s1] 55)) = .ok p' W4 ∧
      RowsO W4 base p' (ls ++ [l]) (vs ++ [s1]) ∧ ∀ w0 : World, w0.heap.size ≤ base → Below w0.heap.size w0 W → Below w0.heap.size w0 W4 := by
  have b0 := below_alloc (Below.refl W.heap.size W) (.cells #[] 34)
  have o0 := own_emptyS W W.heap.size (Nat.le_refl _)
  obtain ⟨s1, W2, r1, o1, g1, t1⟩ := app_rows (base := W.heap.size) o0 (hu.below b0) nz (by simp) (by simp) hl
  have b1 := b0.grown g1 (by simp) (fun k hk => (own_lt o0 k hk).1)
  have b2 := below_alloc b1 (.cells #[s1] 55)
  have b2' := below_alloc (Below.refl W2.heap.size W2) (.cells #[s1] 55)
  have h2 := h.below b2
  have o1' := own_base (pw_own_below o1 b2') hb
  have hs1 : s1.oneCell' = true := by
    obtain ⟨A, c, rfl⟩ := own_slice o1
    rfl
  obtain ⟨p', W4, r4, o4, g4⟩ := app_row54 h2.1 (heap_alloc_new W2 (.cells #[s1] 55)) hs1 (Nat.le_trans hb b2.size) (by omega)
  refine ⟨s1, W2, p', W4, (by obtain ⟨A, c, rfl⟩ := own_slice o1; exact ⟨A, c, by simp⟩), r1, r4, ⟨by simpa using o4, by simp [h.2.1], fun k v m hk hm => ?_⟩, fun w0 hw hB => ?_⟩
  · rcases Nat.lt_or_ge k vs.length with hk' | hk'
    · rw [List.getElem?_append_left hk'] at hk
      rw [List.getElem?_append_left (by have := h.2.1; omega)] at hm
      have := h2.2.2 k v m hk hm
      exact this.kept g4 (own_ne this h2.1)
    · have hkl := (List.getElem?_eq_some_iff.1 hk).1
      simp only [List.length_append, List.length_singleton] at hkl
      have hkk : k = vs.length := by omega
      subst hkk
      rw [List.getElem?_append_right (Nat.le_refl _), Nat.sub_self] at hk
      rw [h.2.1, List.getElem?_append_right (Nat.le_refl _), Nat.sub_self] at hm
      injection hk with hk
      injection hm with hm
      subst hk hm
      have := o1'.kept g4 (own_ne o1' h2.1)
      simpa using this
  · exact (hB.trans (b2.mono hB.size)).grown g4 (Nat.le_trans hB.size b2.size) (fun k hk => Nat.le_trans hw (own_lt h2.1 k hk).1)
theorem wpList_app {P : Program} {o : Oper} {a : Act} {Q : Exit → Act → World → Prop} {ops : Array Oper} {rest : List Oper} {W W' : World} {v u v' : Value} {T : TypeId} (hr : (Builtin.append_ #[T, T] T #[v, u]).run P W = .ok v' W') (hg : o.guard = none) (s x : Operand) (ho : o.op = .call { callee := .builtin .append, args := #[s, x], argTypes := #[T, T] }) (hty : o.type = T)
    (hs : a.eval s = v) (hx : a.eval x = u) (h : wpList P ops Q rest (a.put o.dst v') W') : wpList P ops Q (o :: rest) a W :=
  wpList_plain hg fun K hK => wp_app s x ho hty hs hx hr (hK _ _ h)
/-- A row of rows that is read, none of them an odd nil. -/
def Rows3 (W : World) (v : Value) (ls : List (List St)) : Prop := ∃ A c, v = .slice A ls.length c ∧ ls.length ≤ c ∧ (0 < ls.length → ∃ g o, A = some ⟨g, o, none⟩ ∧ ∀ k ss, ls[k]? = some ss → ∃ u, W.cell? ⟨g, o + k, none⟩ = some u ∧ Row2 W u ss ∧ Nz u)
theorem Rows3.two {W : World} {v : Value} {ls : List (List St)} (h : Rows3 W v ls) : Rows2 W v ls := by
  obtain ⟨A, c, rfl, hc, h⟩ := h
  exact ⟨A, c, rfl, hc, fun h0 => by obtain ⟨g, o, e, hr⟩ := h h0; exact ⟨g, o, e, fun k s hk => by obtain ⟨u, hu, hR, _⟩ := hr k s hk; exact ⟨u, hu, hR⟩⟩⟩
set_option maxRecDepth 10000 in
set_option maxHeartbeats 400000 in
theorem rows_any (v : Value) (ls : List (List St)) (w : World) (h : Rows3 w v ls) (hl : ls.length ≤ 900000) (hM : ∀ l ∈ ls, l.length ≤ 1000000) :
    Calls Try.prog 18 #[v] w fun e w' => ∃ v' vs, e = .returned v' ∧ RowsO w' w.heap.size v' ls vs ∧ Below w.heap.size w w' := by
  obtain ⟨A, c, rfl, k1, r1⟩ := h
  obtain ⟨N, hN⟩ : ∃ N, N = ls.length := ⟨_, rfl⟩
  have HN := Lib.hid hN
  have R1 := Lib.hid r1
  have HM := Lib.hid hM
  rw [← hN] at k1 hl ⊢
  clear hN r1 hM
  go_enter Try.func18, Try.ntmps18
  go_wp2
  go_loopw [3, 4] (fun p n wr => ∃ (i : Nat) (vs : List Value), n = .int .i64 i ∧ i ≤ N ∧ Hid (RowsO wr w.heap.size p (ls.take i) vs) ∧ Hid (Below w.heap.size w wr)) (fun _ n _ => N - (intOf n).toNat)
  case atStart => exact ⟨0, [], rfl, by omega, Lib.hid ⟨⟨rfl, .inl ⟨rfl, rfl⟩⟩, rfl, fun k u l h => by simp at h⟩, Lib.hid (Below.refl _ _)⟩
  case round =>
    obtain ⟨i, vs, rfl, hi, HO, HB⟩ := hrel
    by_cases q : i < N
    · obtain ⟨g, o, rfl, r1⟩ := R1.out (by rw [← HN.out]; omega)
      obtain ⟨ss, hss⟩ : ∃ ss, ls[i]? = some ss := ⟨_, List.getElem?_eq_getElem (by rw [← HN.out]; omega)⟩
      obtain ⟨u, hu, hru, hnz⟩ := r1 i ss hss
      obtain ⟨A2, c2, e2, k2⟩ := id hru
      subst e2
      clear k2
      have hu2 := cell_below HB.out hu
      have HSS := Lib.hid hss
      obtain ⟨_, W2, p', W4, ⟨B1, c1, rfl⟩, a1, a2, ho, hb⟩ := rows_step HO.out (hru.below HB.out) hnz HB.out.size (HM.out ss (List.mem_of_getElem? hss)) (by simp; have := HN.out; omega)
      have A1 := Lib.hid a1
      have A2 := Lib.hid a2
      have HO4 := Lib.hid ho
      have HB4 := Lib.hid (hb w (Nat.le_refl _) HB.out)
      have hz : g < wr.heap.size := World.block_lt_of_cell? wr _ hu2
      clear r1 hss hu hru hnz a1 a2 ho hb
      go_wp2_with (first
        | (refine wpList_app A2.out rfl (.tmp 11) (.tmp 18) rfl rfl (by kernel_rfl) (by kernel_rfl) ?_; clear A2)
        | (refine wp_append55 A1.out rfl (.tmp 12) (.tmp 16) rfl rfl (by kernel_rfl) (by kernel_rfl) ?_; clear A1))
      go_roundw
      case rel => exact ⟨i + 1, _, by go_num, by omega, Lib.hid (by rw [List.take_succ_eq_append_getElem (List.getElem?_eq_some_iff.1 HSS.out).1, (List.getElem?_eq_some_iff.1 HSS.out).2]; exact HO4.out), HB4⟩
      case measure =>
        simp [intOf]
        omega
    · obtain rfl : i = N := by omega
      go_wp2
      go_ret
      refine ⟨_, vs, rfl, ?_, HB.out⟩
      have := HO.out
      rw [List.take_of_length_le (by rw [← HN.out]; omega)] at this
      exact this
theorem plc_split (xs : List St) (s : St) (h : xs.Pairwise lt) : (∀ x ∈ xs.take (plc xs s), lt x s) ∧ (fnd xs s = false → ∀ x ∈ xs.drop (plc xs s), lt s x) := by
  induction xs with
  | nil => simp [plc]
  | cons a xs ih =>
    rw [List.pairwise_cons] at h
    obtain ⟨h1, h2⟩ := ih h.2
    by_cases hc : cmpS (toI a) (toI s) < 0
    · have e : plc (a :: xs) s = plc xs s + 1 := by simp [plc, List.takeWhile_cons, hc]
      have ef : fnd (a :: xs) s = fnd xs s := by simp [fnd, e]
      rw [e, ef]
      refine ⟨fun x hx => ?_, fun hf x hx => h2 hf x (by simpa using hx)⟩
      rw [List.take_succ_cons, List.mem_cons] at hx
      rcases hx with rfl | hx
      · exact hc
      · exact h1 x hx
    · have e : plc (a :: xs) s = 0 := by simp [plc, List.takeWhile_cons, hc]
      have ef : fnd (a :: xs) s = decide (a = s) := by simp [fnd, e]
      rw [e, ef]
      refine ⟨fun x hx => by simp at hx, fun hf x hx => ?_⟩
      have hne : a ≠ s := by simpa using hf
      have hsa : lt s a := by
        rw [lt_iff]
        have h3 : ¬ lt a s := hc
        rw [lt_iff] at h3
        have : ¬ (a.t = s.t ∧ a.r = s.r) := fun hh => hne (st_eq hh.1 hh.2)
        omega
      rw [List.drop_zero, List.mem_cons] at hx
      rcases hx with rfl | hx
      · exact hsa
      · have h4 := h.1 x hx
        rw [lt_iff] at *
        omega
theorem with_law (xs : List St) (s : St) (h : xs.Pairwise lt) : (withL xs s).Pairwise lt ∧ ∀ x, x ∈ withL xs s ↔ x ∈ xs ∨ x = s := by
  unfold withL
  by_cases hf : fnd xs s = true
  · rw [if_pos hf]
    refine ⟨h, fun x => ⟨.inl, fun hx => ?_⟩⟩
    rcases hx with hx | rfl
    · exact hx
    · simp only [fnd, decide_eq_true_eq] at hf
      exact List.mem_of_getElem? hf
  · rw [if_neg hf]
    have hf' : fnd xs s = false := by simpa using hf
    obtain ⟨h1, h2⟩ := plc_split xs s h
    have h2 := h2 hf'
    refine ⟨?_, fun x => ?_⟩
    · rw [List.pairwise_append, List.pairwise_append]
      refine ⟨⟨h.sublist (List.take_sublist _ _), List.pairwise_singleton _ _, fun a ha b hb => ?_⟩, h.sublist (List.drop_sublist _ _), fun a ha b hb => ?_⟩
      · rw [List.mem_singleton] at hb
        subst hb
        exact h1 a ha
      · rw [List.mem_append, List.mem_singleton] at ha
        have hsb := h2 b hb
        rcases ha with ha | rfl
        · have := h1 a ha
          rw [lt_iff] at *
          omega
        · exact hsb
    · rw [List.mem_append, List.mem_append, List.mem_singleton]
      have : x ∈ xs ↔ x ∈ xs.take (plc xs s) ∨ x ∈ xs.drop (plc xs s) := by
        rw [← List.mem_append, List.take_append_drop]
      rw [this]
      constructor
      · rintro ((h | h) | h) <;> simp [h]
      · rintro ((h | h) | h) <;> simp [h]
theorem row_law : ∀ (ss out : List St), out.Pairwise lt → (rowF out ss).Pairwise lt ∧ ∀ x, x ∈ rowF out ss ↔ x ∈ out ∨ x ∈ ss
  | [], out, h => ⟨h, fun x => by simp [rowF]⟩
  | s :: ss, out, h => by
    obtain ⟨h1, h2⟩ := with_law out s h
    obtain ⟨h3, h4⟩ := row_law ss (withL out s) h1
    refine ⟨h3, fun x => ?_⟩
    have := h4 x
    rw [h2] at this
    rw [show rowF out (s :: ss) = rowF (withL out s) ss from rfl, this, List.mem_cons]
    constructor
    · rintro ((h | h) | h) <;> simp [h]
    · rintro (h | h | h) <;> simp [h]
theorem rmerge_law : ∀ (ls : List (List St)) (out : List St), out.Pairwise lt → (rmergeF out ls).Pairwise lt ∧ ∀ x, x ∈ rmergeF out ls ↔ x ∈ out ∨ x ∈ ls.flatten
  | [], out, h => ⟨h, fun x => by simp [rmergeF]⟩
  | ss :: ls, out, h => by
    obtain ⟨h1, h2⟩ := row_law ss out h
    obtain ⟨h3, h4⟩ := rmerge_law ls (rowF out ss) h1
    refine ⟨h3, fun x => ?_⟩
    have := h4 x
    rw [h2] at this
    rw [show rmergeF out (ss :: ls) = rmergeF (rowF out ss) ls from rfl, this, List.flatten_cons, List.mem_append]
    constructor
    · rintro ((h | h) | h) <;> simp [h]
    · rintro (h | h | h) <;> simp [h]
theorem rmerge_is (ls : List (List St)) : rmergeF [] ls = mergeL ls :=
  pair_ext (rmerge_law ls [] .nil).1 (merge_law ls).1 fun s => by rw [(rmerge_law ls [] .nil).2, (merge_law ls).2]; simp
end Go.Proofs.Ytndfoohdoadkfaa
