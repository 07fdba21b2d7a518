/- slices.Clone of items; queue.New. -/
import Derived.Test.YtndfoohdoadkfaaQK
set_option linter.unusedVariables false
set_option linter.unusedSimpArgs false
namespace Go.Proofs.Ytndfoohdoadkfaa
open Go.RowKit
theorem cells_one (xs : List It) : ∀ u ∈ cellsI xs, u.oneCell' = true := by
  intro u hu
  simp only [cellsI, List.mem_flatMap] at hu
  obtain ⟨x, _, hx⟩ := hu
  simp only [IS, List.mem_cons, List.not_mem_nil, or_false] at hx
  rcases hx with rfl | rfl | rfl <;> rfl
theorem app_all {W : World} {base base' : Nat} {g e : Nat} {c : Nat} {xs : List It} (h : W.ownsRow base' 40 3 (.slice (some ⟨g, 0, none⟩) xs.length c) xs.length (cellsI xs)) (he : W.ownsRow base 40 3 (.slice (some ⟨e, 0, none⟩) 0 0) 0 []) (hb : base ≤ W.heap.size) (hl : xs.length ≤ 2000000) :
    ∃ v' w', (Builtin.append_ #[27, 27] 27 #[.slice (some ⟨e, 0, none⟩) 0 0, .slice (some ⟨g, 0, none⟩) xs.length c]).run Try.prog W = .ok v' w' ∧ w'.ownsRow base 40 3 v' xs.length (cellsI xs) ∧ W.grownBy w' (some e) := by
  obtain ⟨i0, hi, hzz⟩ := Option.map_eq_some_iff.1 info40b
  simp only [Prod.mk.injEq] at hzz
  obtain ⟨hz0, hz1, hz2⟩ := hzz
  obtain ⟨v', w', h1, h2, h3, h4, h5⟩ := run_append_own_at (P := Try.prog) W base 27 27 40 i0 _ 3 24 Try.underlying27 hi hz0 hz1 hz2 rfl (by omega) _ 0 [] he ⟨g, 0, none⟩ xs.length c (cellsI xs) (cellsI_len xs) (fun j u hu => h.cells (g := g) rfl j u hu) (cells_one xs) (by simp only [maxLen]; omega) (by omega) hb
  exact ⟨v', w', h1, by simpa using h2, h3⟩
theorem wp_append27 {o : Oper} {a : Act} {Q : Exit → Act → World → Prop} {ops : Array Oper} {rest : List Oper} {W W' : World} {v u v' : Value} (hg : o.guard = none) (s x : Operand) (ho : o.op = .call { callee := .builtin .append, args := #[s, x], argTypes := #[27, 27] }) (hty : o.type = 27)
    (hs : a.eval s = v) (hx : a.eval x = u) (hr : (Builtin.append_ #[27, 27] 27 #[v, u]).run Try.prog W = .ok v' W') (h : wpList Try.prog ops Q rest (a.put o.dst v') W') : wpList Try.prog ops Q (o :: rest) a W := by
  refine wpList_plain hg fun K hK => ?_
  unfold Oper.wp execOp
  simp only [ho, hty, resolve, invoke, builtin, Sem.run_bind, Sem.run_pure, Result.andThen_ok, List.map_toArray, List.map_cons, List.map_nil, hs, hx, hr]
  exact hK _ _ h
theorem own_empty (W : World) (base : Nat) (hb : base ≤ W.heap.size) : (W.alloc (.cells #[] 40)).ownsRow base 40 3 (.slice (some ⟨W.heap.size, 0, none⟩) 0 0) 0 [] :=
  ⟨rfl, .inr ⟨W.heap.size, 0, #[], rfl, hb, heap_alloc_new W _, Nat.le_refl _, by simp [maxLen], rfl, rfl⟩⟩
theorem own_none (W : World) (base : Nat) : W.ownsRow base 40 3 (.slice none 0 0) 0 [] := ⟨rfl, .inl ⟨rfl, rfl⟩⟩
set_option maxHeartbeats 1000000 in
theorem clone_it (base : Nat) (v : Value) (xs : List It) (w : World) (h : w.ownsRow base 40 3 v xs.length (cellsI xs)) (hl : xs.length ≤ 2000000) :
    Calls Try.prog 27 #[v] w fun e w' => ∃ v', e = .returned v' ∧ w'.ownsRow w.heap.size 40 3 v' xs.length (cellsI xs) ∧ Below w.heap.size w w' := by
  have H := Lib.hid h
  rcases h.2 with ⟨rfl, h0⟩ | ⟨g, cap, cur, rfl, hg, hh, _⟩
  · have hx : xs = [] := List.eq_nil_of_length_eq_zero h0
    subst hx
    have he := fun W => Lib.run_eql_slice_nil (P := Try.prog) W 27 40 none 0 0 0 0 Try.underlying27
    go_enter Try.func27, Try.ntmps27
    go_wp2
    go_ret
    exact ⟨_, rfl, own_none _ _, Below.refl _ _⟩
  · have he := fun W => Lib.run_eql_slice_nil (P := Try.prog) W 27 40 (some ⟨g, 0, none⟩) xs.length cap 0 0 Try.underlying27
    have hB0 := below_alloc (Below.refl w.heap.size w) (.cells #[] 40)
    obtain ⟨v', w', r1, r2, r3⟩ := app_all (pw_own_below H.out hB0) (own_empty w w.heap.size (Nat.le_refl _)) (by simp) hl
    have hB1 : Below w.heap.size w w' := hB0.grown r3 (by simp) (fun k hk => by injection hk with hk; omega)
    have R1 := Lib.hid r1
    clear h r1
    go_enter Try.func27, Try.ntmps27
    go_wp2_with (refine wp_append27 rfl (.tmp 5) (.tmp 6) rfl rfl rfl rfl R1.out ?_)
    go_ret
    exact ⟨_, rfl, r2, hB1⟩
theorem own_le {W : World} {base T size n c : Nat} {A : Option Addr} {xs : List Value} (h : W.ownsRow base T size (.slice A n c) n xs) : n ≤ c := by
  rcases h.2 with ⟨e, h0⟩ | ⟨g, cap, cur, e, _, _, hnc, _⟩
  · omega
  · injection e with e1 e2 e3
    omega
def NewPost (xs : List It) (w : World) (e : Ending) (w' : World) : Prop := ∃ gq b v', e = .returned (qp gq) ∧ QV w' w.heap.size gq b v' (initL (xs.length / 2) xs) ∧ w.heap.size ≤ gq ∧ w.heap.size ≤ b ∧ Below w.heap.size w w'
set_option maxRecDepth 10000 in
set_option maxHeartbeats 1000000 in
theorem new_any (base : Nat) (v : Value) (xs : List It) (w : World) (h : w.ownsRow base 40 3 v xs.length (cellsI xs)) (hl : xs.length ≤ 1048576) : Calls Try.prog 9 #[v] w (NewPost xs w) := by
  obtain ⟨A, c, rfl⟩ := own_slice h
  have H := Lib.hid h
  obtain ⟨n, hn⟩ : ∃ n, n = xs.length := ⟨_, rfl⟩
  have HN := Lib.hid hn
  have hmin : min (n : Int) 1048576 = n := by omega
  have hnc : n ≤ c := by
    have := own_le h
    omega
  rw [← hn]
  clear h hn
  go_enter Try.func9, Try.ntmps9
  go_wp2_with (first
    | (go_at_call 27; refine (clone_it base _ xs _ (by have := H.out; rw [← HN.out] at this ⊢; exact this) (by omega)).mono ?_; rintro e w1 ⟨v1, rfl, hO, hB⟩; rw [← HN.out] at hO; (obtain ⟨A1, c1, rfl⟩ := own_slice hO); have hbl := below_alloc (Below.refl w1.heap.size w1) (.cells #[.slice A1 n c1] 66); have HP := Lib.hid (show PV (w1.alloc (.cells #[.slice A1 n c1] 66)) w.heap.size w1.heap.size (.slice A1 n c1) xs from ⟨heap_alloc_new w1 _, by rw [← HN.out]; exact pw_own_below hO hbl⟩); have HB := Lib.hid (bel hB hbl); have hz1 := hB.size; clear hO hB hbl)
    | (go_at_call 28; refine (init_any w.heap.size w1.heap.size _ xs _ HP.out HB.out.size (by omega)).mono ?_; rintro e w2 ⟨rfl, hp2, hq2⟩; have HP2 := Lib.hid hp2; have HB2 := Lib.hid (hq2.bel _ _ (Nat.le_refl _) hz1 HB.out); clear hp2 hq2))
  go_ret
  have hb3 := below_alloc (Below.refl w2.heap.size w2) (.cells #[qp w1.heap.size] 49)
  exact ⟨w2.heap.size, w1.heap.size, _, rfl, ⟨heap_alloc_new w2 _, HP2.out.below hb3⟩, HB2.out.size, hz1, bel HB2.out hb3⟩
end Go.Proofs.Ytndfoohdoadkfaa
