/- Rows of bytes: read, cut to their length, appended to, copied. No condition. -/
import Derived.Test.YthodclhemleeaaaDrawn2
import Derived.Test.YthodclhemleeaaaWMore
import Derived.Maps.AppendAt
import Derived.ArgAppend
set_option linter.unusedVariables false
set_option linter.unusedSimpArgs false
namespace Go.Proofs.Ythodclhemleeaaa
open Go.RowKit
open Go.Proofs.YthodclhemleeaaaW.PrintWords (nums ReadsInt own_reads own_reads' nums_length)
/-- A slice of bytes that reads as xs; its row's block is a row of bytes. -/
def Slc (W : World) (v : Value) (xs : List Int) : Prop :=
  ∃ A c, v = .slice A xs.length c ∧ xs.length ≤ c ∧ c ≤ maxLen ∧ (A = none → c = 0) ∧ ReadsInt W .u8 A xs.length xs ∧ ∀ ad, A = some ad → ∃ cells fr, W.heap[ad.block]? = some (.cells cells 5 fr)
theorem Slc.nil (W : World) : Slc W (.slice none 0 0) [] := ⟨none, 0, rfl, Nat.le_refl _, by simp [maxLen], (fun _ => rfl), ⟨rfl, by simp, fun h => absurd h (Nat.lt_irrefl 0)⟩, (fun _ h => by cases h)⟩
theorem block_add (a : Addr) (n : Nat) : (a.add n).block = a.block := by unfold Addr.add; split <;> rfl
theorem cell_of_heap_eq {W W' : World} {a : Addr} (h : W'.heap[a.block]? = W.heap[a.block]?) : W'.cell? a = W.cell? a := by
  unfold World.cell?
  rw [h]
/-- What stays: its row's block. -/
theorem Slc.keep {W W' : World} {v : Value} {xs : List Int} (h : Slc W v xs) (hk : ∀ (k : Nat) (cells : Array Value) (fr : Nat × Nat), W.heap[k]? = some (Obj.cells cells 5 fr) → W'.heap[k]? = W.heap[k]?) : Slc W' v xs := by
  obtain ⟨A, c, rfl, h1, h2, h3, hr, hb⟩ := h
  refine ⟨A, c, rfl, h1, h2, h3, ⟨hr.1, hr.2.1, fun hn => ?_⟩, fun ad ha => ?_⟩
  · obtain ⟨ad, rfl, hc⟩ := hr.2.2 hn
    obtain ⟨cells, fr, hcell⟩ := hb ad rfl
    refine ⟨ad, rfl, fun j hj => ?_⟩
    exact (cell_of_heap_eq (a := ad.add j) (by rw [block_add]; exact hk _ _ _ hcell)).trans (hc j hj)
  · obtain ⟨cells, fr, hcell⟩ := hb ad ha
    exact ⟨cells, fr, (hk _ _ _ hcell).trans hcell⟩
theorem Slc.below {W W' : World} {v : Value} {xs : List Int} (h : Slc W v xs) (hb : Below W.heap.size W W') : Slc W' v xs := h.keep fun k _ _ hk => hb.block k (heap_lt hk)
/-- A store into a block of another type. -/
theorem Slc.set {W : World} {v : Value} {xs : List Int} (h : Slc W v xs) {g j : Nat} {u : Value} {cs : Array Value} {T : TypeId} {f : Nat × Nat} (hg : W.heap[g]? = some (.cells cs T f)) (hT : T ≠ 5) : Slc (W.setCell ⟨g, j, none⟩ u) v xs :=
  h.keep fun k cells fr hk => Below.heap_setCell _ _ _ _ (by
    rintro rfl
    rw [hk] at hg
    injection hg with hg
    injection hg with _ hg
    exact hT hg.symm)
theorem Slc.own {W : World} {base n : Nat} {v : Value} {xs : List Int} (h : W.ownsRow base 5 1 v n (nums .u8 xs)) : Slc W v xs := by
  have hl : xs.length = n := by have := h.1; simp [nums] at this; exact this
  subst hl
  obtain ⟨A, c, rfl, hr⟩ := own_reads h
  rcases h.2 with ⟨e, _⟩ | ⟨g, cap, cur, e, _, hh, hnc, hcm, _⟩
  · injection e with e1 e2 e3
    subst e1 e3
    exact ⟨none, 0, rfl, by omega, by simp [maxLen], (fun _ => rfl), hr, (fun _ h => by cases h)⟩
  · injection e with e1 e2 e3
    subst e1 e3
    refine ⟨_, _, rfl, hnc, hcm, (fun h => by cases h), hr, fun ad ha => ?_⟩
    have ha' := Option.some.inj ha
    subst ha'
    exact ⟨_, _, hh⟩
/-- A slice of bytes that reads as xs, wherever its row lies. -/
def Slc0 (W : World) (v : Value) (xs : List Int) : Prop :=
  ∃ A c, v = .slice A xs.length c ∧ xs.length ≤ c ∧ c ≤ maxLen ∧ (A = none → c = 0) ∧ ReadsInt W .u8 A xs.length xs
theorem Slc.s0 {W : World} {v : Value} {xs : List Int} (h : Slc W v xs) : Slc0 W v xs := by
  obtain ⟨A, c, rfl, h1, h2, h3, hr, hb⟩ := h
  exact ⟨A, c, rfl, h1, h2, h3, hr⟩
theorem Slc0.below {W W' : World} {v : Value} {xs : List Int} (h : Slc0 W v xs) (hb : Below W.heap.size W W') : Slc0 W' v xs := by
  obtain ⟨A, c, rfl, h1, h2, h3, hr⟩ := h
  exact ⟨A, c, rfl, h1, h2, h3, hr.below hb⟩
/-- A store into a block that has no bytes. -/
theorem Slc0.set {W : World} {v : Value} {xs : List Int} (h : Slc0 W v xs) {g j : Nat} {u : Value} {cs : Array Value} {T : TypeId} {f : Nat × Nat} (hg : W.heap[g]? = some (.cells cs T f)) (hn : ∀ (i : Nat) (x : Int), cs[i]? ≠ some (.int .u8 x)) : Slc0 (W.setCell ⟨g, j, none⟩ u) v xs := by
  obtain ⟨A, c, rfl, h1, h2, h3, hr⟩ := h
  refine ⟨A, c, rfl, h1, h2, h3, hr.1, hr.2.1, fun hl => ?_⟩
  obtain ⟨ad, rfl, hc⟩ := hr.2.2 hl
  refine ⟨ad, rfl, fun i hi => ?_⟩
  have hne : (ad.add i).block ≠ g := by
    intro e
    have hci := hc i hi
    rw [block_add] at e
    subst e
    have hb : W.heap[(ad.add i).block]? = some (.cells cs T f) := by rw [block_add]; exact hg
    unfold World.cell? at hci
    rw [hb] at hci
    change (if (ad.add i).spot.isSome = true then none else cs[(ad.add i).off]?) = _ at hci
    split at hci
    · cases hci
    · exact hn _ _ hci
  exact (cell_of_heap_eq (a := ad.add i) (Below.heap_setCell _ _ _ _ hne)).trans (hc i hi)
theorem info5 : (Try.prog.info? 5).map (fun i => (i.zero, i.size, i.bytes)) = some (some (.int .u8 0), 1, 1) := by kernel_rfl
/-- xs[:k:k] -/
theorem Slc.cut {W : World} {v : Value} {xs : List Int} (h : Slc W v xs) (k : Nat) (hk : k ≤ xs.length) :
    ∃ v', (∀ W', (Instr.slice 31 v none (some (.int .i64 (k : Int))) (some (.int .i64 (k : Int)))).run Try.prog W' = .ok v' W') ∧ Slc W v' (xs.take k) ∧ ∃ A, v' = .slice A k k := by
  obtain ⟨A, c, rfl, h1, h2, h3, hr, hb⟩ := h
  have hel : Try.prog.elem 31 = 5 := by kernel_rfl
  have hu : Try.prog.underlying 31 = some (.slice (Try.prog.elem 31)) := by rw [hel]; exact Try.underlying31
  have hs : ∀ W' : World, ((sizeOf (Try.prog.elem 31)).run Try.prog W') = .ok 1 W' := fun W' => by kernel_rfl
  have hrun : ∀ W', (Instr.slice 31 (.slice A xs.length c) none (some (.int .i64 (k : Int))) (some (.int .i64 (k : Int)))).run Try.prog W' = .ok (.slice A k k) W' := by
    intro W'
    rw [run_slice_hm W' 31 A xs.length c hu .i64 .i64 k k (by omega) (by omega) (by omega), hs]
    cases A with
    | none => simp [sliced, Result.andThen]
    | some ad => simp [sliced, Result.andThen, Addr.add]
  refine ⟨.slice A k k, hrun, ⟨A, k, by simp [Nat.min_eq_left hk], by simp [Nat.min_eq_left hk], by omega, fun ha => by have := h3 ha; omega, ?_, hb⟩, A, rfl⟩
  have := hr.take_ k hk
  simpa [Nat.min_eq_left hk] using this
/-- append onto a slice that is full: a new row, or the same one where nothing is appended. -/
theorem app_full {W : World} {A : Option Addr} {n : Nat} {xs ys : List Int} {u : Value} (hx : Slc W (.slice A n n) xs) (hn : xs.length = n) (hy : Slc0 W u ys) (hl : n + ys.length ≤ 1099511627776) :
    ∃ v' W', (Builtin.append_ #[31, 31] 31 #[.slice A n n, u]).run Try.prog W = .ok v' W' ∧ Slc W' v' (xs ++ ys) ∧ Below W.heap.size W W' ∧ (ys = [] ∨ ∃ g c, v' = .slice (some ⟨g, 0, none⟩) (n + ys.length) c ∧ W.heap.size ≤ g) := by
  obtain ⟨i0, hi, hzz⟩ := Option.map_eq_some_iff.1 info5
  simp only [Prod.mk.injEq] at hzz
  obtain ⟨hz0, hz1, hz2⟩ := hzz
  have hx' := hx
  obtain ⟨A', c, e, h1, h2, h3, hr, hb⟩ := hx
  injection e with e1 e2 e3
  subst e1 e3
  have hy' := hy
  obtain ⟨B, d, rfl, g1, g2, g3, hq⟩ := hy
  rcases Nat.eq_zero_or_pos ys.length with hm | hm
  · have hys : ys = [] := List.eq_nil_of_length_eq_zero hm
    subst hys
    refine ⟨.slice A n n, W, ?_, by simpa using hx', Below.refl _ _, .inl rfl⟩
    cases A with
    | none =>
      have hn0 : n = 0 := h3 rfl
      subst hn0
      cases B <;> simp [Builtin.append_, run_underlying Try.underlying31, sizeOf, typeInfo, hi, Builtin.lenOf, Builtin.firstCells, loadCells, loadCellsFrom, storeCells]
    | some ad => cases B <;> simp [Builtin.append_, run_underlying Try.underlying31, sizeOf, typeInfo, hi, Builtin.lenOf, Builtin.firstCells, loadCells, loadCellsFrom, storeCells]
  · obtain ⟨bd, rfl, hc⟩ := hq.2.2 hm
    have hnews : ∀ j u, (nums .u8 ys)[j]? = some u → W.cell? (bd.add j) = some u := by
      intro j u hu
      have hj : j < ys.length := by
        rcases Nat.lt_or_ge j ys.length with h | h
        · exact h
        · simp [nums, List.getElem?_eq_none h] at hu
      have := hc j hj
      simp [nums, List.getElem?_eq_getElem hj] at hu
      subst hu
      rw [this]
      simp [List.getD_eq_getElem?_getD, List.getElem?_eq_getElem hj]
    have hbel : ∀ o, Below W.heap.size W (W.drew.alloc o) := fun o => ((Below.refl _ _).drew).alloc (Nat.le_refl _) o
    have fin : ∀ (old : Nat), (W.drew.alloc (.cells ((nums .u8 xs).toArray ++ (nums .u8 ys).toArray ++ Builtin.zeroCells (Value.int .u8 0).cells (grownCap W (n + ys.length) old 5 - (n + ys.length))) 5)).ownsRow 0 5 1 (.slice (some ⟨W.heap.size, 0, none⟩) (n + ys.length) (grownCap W (n + ys.length) old 5)) (n + ys.length) (nums .u8 (xs ++ ys)) := by
      intro old
      have hge := grownCap_ge W (n + ys.length) old 5
      have hcm : grownCap W (n + ys.length) old 5 ≤ maxLen := grownCap_le_maxLen W (n + ys.length) old 5 (by simp only [maxLen]; omega)
      refine ⟨by simp [nums]; omega, .inr ⟨W.heap.size, _, _, rfl, Nat.zero_le _, heap_alloc_new W.drew _, hge, hcm, ?_, ?_⟩⟩
      · simp only [Array.size_append, List.size_toArray, size_zeroCells, nums_length]
        simp [Value.cells]
        omega
      · simp only [Array.toList_append, List.append_assoc]
        rw [← List.append_assoc]
        have : (nums .u8 xs ++ nums .u8 ys).length = (n + ys.length) * 1 := by simp [nums]; omega
        simp only [nums, List.map_append] at this ⊢
        rw [← this]
        exact List.take_left
    cases A with
    | none =>
      have hn0 : n = 0 := h3 rfl
      subst hn0
      have hxs : xs = [] := List.eq_nil_of_length_eq_zero hn
      subst hxs
      have hr2 := run_append_nil (P := Try.prog) W 31 31 5 i0 (.int .u8 0) Try.underlying31 hi hz0 bd ys.length d (nums .u8 ys) (by simp [nums, hz1]) hnews hm (by omega) (by rw [hz2]; omega)
      have hf := fin 0
      simp only [Nat.zero_add, List.nil_append] at hf
      refine ⟨_, _, hr2, ?_, hbel _, .inr ⟨_, _, by rw [Nat.zero_add], Nat.le_refl _⟩⟩
      simpa [nums] using Slc.own hf
    | some ad =>
      obtain ⟨holds⟩ : Nonempty (∀ j v, (nums .u8 xs)[j]? = some v → W.cell? (ad.add j) = some v) := ⟨by
        intro j u hu
        have hj : j < xs.length := by
          rcases Nat.lt_or_ge j xs.length with h | h
          · exact h
          · simp [nums, List.getElem?_eq_none h] at hu
        obtain ⟨ad', ha', hc'⟩ := hr.2.2 (by omega)
        injection ha' with ha'
        subst ha'
        have := hc' j hj
        simp [nums, List.getElem?_eq_getElem hj] at hu
        subst hu
        rw [this]
        simp [List.getD_eq_getElem?_getD, List.getElem?_eq_getElem hj]⟩
      have hr2 := run_append_grow (P := Try.prog) W 31 31 5 i0 (.int .u8 0) Try.underlying31 hi hz0 ad n n (nums .u8 xs) (by simp [nums, hz1, hn]) holds bd ys.length d (nums .u8 ys) (by simp [nums, hz1]) hnews (by omega) (by omega) (by rw [hz2]; exact growslice_fits (by omega) (by omega))
      exact ⟨_, _, hr2, Slc.own (fin n), hbel _, .inr ⟨_, _, rfl, Nat.le_refl _⟩⟩
end Go.Proofs.Ythodclhemleeaaa
