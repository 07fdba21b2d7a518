/- knows. -/
import Derived.Test.YtndfoohdoadkfaaQM
set_option linter.unusedVariables false
set_option linter.unusedSimpArgs false
namespace Go.Proofs.Ytndfoohdoadkfaa
open Go.RowKit
theorem own_one (x : It) (W : World) (base : Nat) (hb : base ≤ W.heap.size) : (W.alloc (.cells (IS x) 40)).ownsRow base 40 3 (.slice (some ⟨W.heap.size, 0, none⟩) 1 1) [x].length (cellsI [x]) :=
  ⟨rfl, .inr ⟨W.heap.size, 1, IS x, rfl, hb, heap_alloc_new W _, Nat.le_refl _, by simp [maxLen], rfl, rfl⟩⟩
theorem own_base {W : World} {b b' T size n : Nat} {v : Value} {l : List Value} (h : W.ownsRow b' T size v n l) (hb : b ≤ b') : W.ownsRow b T size v n l := by
  refine ⟨h.1, ?_⟩
  rcases h.2 with e | ⟨g, cap, cur, e, hg, r⟩
  · exact .inl e
  · exact .inr ⟨g, cap, cur, e, Nat.le_trans hb hg, r⟩
/-- New, for a caller. -/
theorem new_in (w0 : World) (base : Nat) (v : Value) (xs : List It) (w : World) (h : w.ownsRow base 40 3 v xs.length (cellsI xs)) (hl : xs.length ≤ 1048576) (hB : Below w0.heap.size w0 w) :
    Calls Try.prog 9 #[v] w fun e w' => ∃ gq b v' bs, e = .returned (qp gq) ∧ w0.heap.size ≤ bs ∧ bs ≤ w'.heap.size ∧ bs ≤ gq ∧ bs ≤ b ∧ QV w' bs gq b v' (initL (xs.length / 2) xs) ∧ Below w0.heap.size w0 w' :=
  (new_any base v xs w h hl).mono fun e w' ⟨gq, b, v', he, hQ, h1, h2, hb⟩ => ⟨gq, b, v', w.heap.size, he, hB.size, hb.size, h1, h2, hQ, bel hB hb⟩
theorem push_in (w0 : World) (bs gq b : Nat) (v : Value) (xs : List It) (x : It) (w : World) (h : QV w bs gq b v xs) (hl : xs.length < 1048576) (hs : bs ≤ w.heap.size) (h0 : w0.heap.size ≤ bs) (hb : bs ≤ b) (hB : Below w0.heap.size w0 w) :
    Calls Try.prog 15 #[qp gq, .agg (IS x)] w fun e w' => e = .returned (.int .i64 0) ∧ bs ≤ w'.heap.size ∧ Below w0.heap.size w0 w' ∧ ∃ v', QV w' bs gq b v' (pushL xs x) :=
  (q_push bs gq b v xs x w h hs hl).mono fun e w' ⟨he, v', hQ, hP⟩ => ⟨he, Nat.le_trans hs hP.size, hP.bel _ _ h0 (Nat.le_trans h0 hb) hB, v', hQ⟩
theorem pop_in (w0 : World) (bs gq b : Nat) (v : Value) (xs : List It) (w : World) (h : QV w bs gq b v xs) (hn : 0 < xs.length) (hl : xs.length ≤ 2000000) (hs : bs ≤ w.heap.size) (h0 : w0.heap.size ≤ bs) (hb : bs ≤ b) (hB : Below w0.heap.size w0 w) :
    Calls Try.prog 12 #[qp gq] w fun e w' => e = .returned (.tuple #[.agg (IS (at_ xs 0)), .bool true]) ∧ bs ≤ w'.heap.size ∧ Below w0.heap.size w0 w' ∧ ∃ v', QV w' bs gq b v' (popL xs) :=
  (q_pop bs gq b v xs w h hs hn hl).mono fun e w' ⟨he, v', hQ, hP⟩ => ⟨he, Nat.le_trans hs hP.size, hP.bel _ _ h0 (Nat.le_trans h0 hb) hB, v', hQ⟩
theorem merge_in (w0 : World) (v0 : Value) (ls : List (List St)) (w : World) (h : Rows2 w v0 ls) (htot : ls.flatten.length ≤ 1000000) (hN : ls.length ≤ 1000000) (hB : Below w0.heap.size w0 w) :
    Calls Try.prog 19 #[v0] w fun e w' => ∃ v, e = .returned v ∧ w'.ownsRow w0.heap.size 34 2 v (mergeL ls).length (cellsS (mergeL ls)) ∧ Below w0.heap.size w0 w' ∧ Below w.heap.size w w' :=
  (merge_walk v0 ls w h htot hN).mono fun e w' ⟨v, he, hr, hb⟩ => ⟨v, he, own_base hr hB.size, bel hB hb, hb⟩
theorem num_is (n : Int) (w : World) : Calls Try.prog 14 #[.int .i64 n] w fun e w' => e = .returned (.int .i64 n) ∧ w = w' := by
  go_enter Try.func14, Try.ntmps14
  go_wp2
  go_ret
  exact ⟨rfl, rfl⟩
def kn2 : List (List St) := [[⟨2, 0⟩, ⟨5, 0⟩], [⟨3, 0⟩]]
theorem kn2_is : mergeL kn2 = [⟨2, 0⟩, ⟨3, 0⟩, ⟨5, 0⟩] := by decide
theorem knq : initL ([(⟨5, 0, 1⟩ : It)].length / 2) [⟨5, 0, 1⟩] = [⟨5, 0, 1⟩] := by decide
theorem knp : pushL [(⟨5, 0, 1⟩ : It)] ⟨3, 0, 2⟩ = [⟨3, 0, 2⟩, ⟨5, 0, 1⟩] := by decide
theorem knr : popL [(⟨3, 0, 2⟩ : It), ⟨5, 0, 1⟩] = [⟨5, 0, 1⟩] := by decide
theorem range_of_heap {W : World} {g : Nat} {T : TypeId} {cells : Array Value} (h : W.heap[g]? = some (.cells cells T (0, 0))) (o : Nat) (l : List Value) (hl : ∀ j v, l[j]? = some v → cells[o + j]? = some v) : W.rangeAt g o l :=
  fun j v hv => cell_of_heap h (j := o + j) (hl j v hv)
theorem kn_rows (W : World) (n : Nat) (hn : W.heap.size = n) :
    Rows2 (((W.alloc (.cells #[.int .i64 2, .int .i64 0, .int .i64 5, .int .i64 0] 34)).alloc (.cells #[.int .i64 3, .int .i64 0] 34)).alloc (.cells #[.slice (some ⟨n, 0, none⟩) 2 2, .slice (some ⟨n + 1, 0, none⟩) 1 1] 55)) (.slice (some ⟨n + 1 + 1, 0, none⟩) 2 2) kn2 := by
  subst hn
  have h0 := below_alloc (Below.refl (W.alloc (.cells #[.int .i64 2, .int .i64 0, .int .i64 5, .int .i64 0] 34)).heap.size _) (.cells #[.int .i64 3, .int .i64 0] 34)
  have h1 := below_alloc (Below.refl ((W.alloc (.cells #[.int .i64 2, .int .i64 0, .int .i64 5, .int .i64 0] 34)).alloc (.cells #[.int .i64 3, .int .i64 0] 34)).heap.size _) (.cells #[.slice (some ⟨W.heap.size, 0, none⟩) 2 2, .slice (some ⟨W.heap.size + 1, 0, none⟩) 1 1] 55)
  have a0 : (W.alloc (.cells #[.int .i64 2, .int .i64 0, .int .i64 5, .int .i64 0] 34)).heap[W.heap.size]? = some _ := heap_alloc_new W _
  have a1 := (h0.block W.heap.size (by simp)).trans a0
  have a2 := (h1.block W.heap.size (by simp; omega)).trans a1
  have b1 : ((W.alloc (.cells #[.int .i64 2, .int .i64 0, .int .i64 5, .int .i64 0] 34)).alloc (.cells #[.int .i64 3, .int .i64 0] 34)).heap[W.heap.size + 1]? = some _ := heap_new_at (by simp)
  have b2 := (h1.block (W.heap.size + 1) (by simp)).trans b1
  have c2 : (((W.alloc (.cells #[.int .i64 2, .int .i64 0, .int .i64 5, .int .i64 0] 34)).alloc (.cells #[.int .i64 3, .int .i64 0] 34)).alloc (.cells #[.slice (some ⟨W.heap.size, 0, none⟩) 2 2, .slice (some ⟨W.heap.size + 1, 0, none⟩) 1 1] 55)).heap[W.heap.size + 1 + 1]? = some _ := heap_new_at (by simp)
  refine ⟨_, _, rfl, Nat.le_refl _, fun _ => ⟨_, 0, rfl, ?_⟩⟩
  intro k ss hk
  rcases k with _ | _ | k
  · injection hk with hk
    subst hk
    refine ⟨_, cell_of_heap c2 (j := 0) rfl, _, _, rfl, Nat.le_refl _, fun _ => ⟨_, 0, rfl, ?_⟩⟩
    intro k s hs
    rcases k with _ | _ | k
    · injection hs with hs
      subst hs
      exact range_of_heap a2 _ _ (fun j v hv => by
        rcases j with _ | _ | j
        · exact hv
        · exact hv
        · simp [SS] at hv)
    · injection hs with hs
      subst hs
      exact range_of_heap a2 _ _ (fun j v hv => by
        rcases j with _ | _ | j
        · exact hv
        · exact hv
        · simp [SS] at hv)
    · simp at hs
  · injection hk with hk
    subst hk
    refine ⟨_, cell_of_heap c2 (j := 1) rfl, _, _, rfl, Nat.le_refl _, fun _ => ⟨_, 0, rfl, ?_⟩⟩
    intro k s hs
    rcases k with _ | k
    · injection hs with hs
      subst hs
      exact range_of_heap b2 _ _ (fun j v hv => by
        rcases j with _ | _ | j
        · exact hv
        · exact hv
        · simp [SS] at hv)
    · simp at hs
  · simp [kn2] at hk
theorem own_some {W : World} {base T size n c : Nat} {A : Option Addr} {l : List Value} (h : W.ownsRow base T size (.slice A n c) n l) (h0 : 0 < n) : ∃ g, A = some ⟨g, 0, none⟩ ∧ base ≤ g := by
  rcases h.2 with ⟨e, h1⟩ | ⟨g, cap, cur, e, hg, _⟩
  · omega
  · injection e with e
    exact ⟨g, e, hg⟩
set_option maxRecDepth 10000 in
set_option maxHeartbeats 0 in
theorem knows_is (w : World) : Calls Try.prog 8 #[] w fun e w' => e = .returned (.bool true) ∧ Below w.heap.size w w' := by
  go_enter Try.func8, Try.ntmps8
  go_wp2_with (first
    | (go_at_call 9; refine (new_in w w.heap.size _ [⟨5, 0, 1⟩] _ (own_one ⟨5, 0, 1⟩ w _ (Nat.le_refl _)) (by simp) (below_alloc (Below.refl _ _) _)).mono ?_; rintro e w1 ⟨gq, b, v1, bs, rfl, h0, hs, hbg, hbb, hQ, hB⟩; rw [knq] at hQ)
    | (go_at_call 15; refine (push_in w bs gq b v1 _ ⟨3, 0, 2⟩ _ hQ (by simp) hs h0 hbb hB).mono ?_; rintro e w2 ⟨rfl, hs2, hB2, v2, hQ2⟩; rw [knp] at hQ2)
    | (go_at_call 12; refine (pop_in w bs gq b v2 _ _ hQ2 (by simp) (by simp) hs2 h0 hbb hB2).mono ?_; rintro e w3 ⟨rfl, hs3, hB3, v3, hQ3⟩; rw [knr] at hQ3; rw [show IS (at_ [⟨3, 0, 2⟩, ⟨5, 0, 1⟩] 0) = #[.int .i64 3, .int .i64 0, .int .i64 2] from rfl])
    | (go_at_call 19; go_loud (refine (merge_in w _ kn2 _ (kn_rows (w3.alloc (.cells #[.int .i64 3, .int .i64 0, .int .i64 2] 40)) (w3.heap.size + 1) (by simp)) (by decide) (by decide) (below_alloc (below_alloc (below_alloc (below_alloc hB3 _) _) _) _)).mono ?_; rintro e w4 ⟨v4, rfl, r4, hB4, h34⟩; rw [kn2_is] at r4; obtain ⟨A4, c4, rfl⟩ := own_slice r4; obtain ⟨g8, rfl, hg8⟩ := own_some r4 (by decide); have c2 : w4.cell? ⟨g8, 2, none⟩ = some (.int .i64 3) := (rowS_range r4 (k := 1) (x := ⟨3, 0⟩) rfl) 0 _ rfl; have hb9 := (below_alloc (below_alloc (below_alloc (Below.refl (w3.alloc (.cells #[.int .i64 3, .int .i64 0, .int .i64 2] 40)).heap.size _) (.cells #[.int .i64 2, .int .i64 0, .int .i64 5, .int .i64 0] 34)) (.cells #[.int .i64 3, .int .i64 0] 34)) (.cells #[.slice (some ⟨w3.heap.size + 1, 0, none⟩) 2 2, .slice (some ⟨w3.heap.size + 1 + 1, 0, none⟩) 1 1] 55)); have hb8 := bel hb9 h34; have c3 : w4.cell? ⟨w3.heap.size, 2, none⟩ = some (.int .i64 2) := cell_of_heap ((hb8.block w3.heap.size (by simp)).trans (heap_alloc_new w3 _)) (j := 2) rfl; have hQ4 := (hQ3.below (below_alloc (Below.refl _ _) _)).below hb8; clear h34 hb9 hb8))
    | (go_at_call 14; refine (num_is _ _).mono ?_; rintro e w1 ⟨rfl, rfl⟩)
    | (go_at_call 16; refine (q_len _ _ _ _ _ _ hQ4).mono ?_; rintro e w1 ⟨rfl, rfl⟩))
  go_ret
  exact ⟨rfl, hB4⟩
end Go.Proofs.Ytndfoohdoadkfaa
