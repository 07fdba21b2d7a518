/- wire's reader: none, Upto, Err, Left, Done, Open. -/
import Derived.Test.YtidfmpiliinmeaaX
import Derived.Test.YtidfmpiliinmeaaDrawn2
import Derived.Maps.AppendAt
import Derived.ArgAppend
set_option linter.unusedVariables false
set_option linter.unusedSimpArgs false
namespace Go.Proofs.Ytidfmpiliinmeaa
open Go.RowKit
open Go.Proofs.YtidfmpiliinmeaaW.PrintWords (nums ReadsInt print_append_row own_reads own_nil nums_length)
abbrev rp (g : Nat) : Value := .pointer (some ⟨g, 0, none⟩)
def rcells (g off n c : Nat) : Array Value := #[.slice (some ⟨g, off, none⟩) n c, .int .i64 0, .bool true]
/-- A reader at gr whose bytes xs lie at off of block g. -/
structure RdAt (W : World) (gr g off c : Nat) (xs : List Int) : Prop where
  blk : W.heap[gr]? = some (.cells (rcells g off xs.length c) 62 (0, 0))
  bs : Rbs W g off xs
  ne : g ≠ gr
  lt : g < W.heap.size
  le : xs.length ≤ c
  cm : c ≤ maxLen
theorem Rbs.below {W W' : World} {g off : Nat} {xs : List Int} (h : Rbs W g off xs) (hg : g < W.heap.size) (hb : Below W.heap.size W W') : Rbs W' g off xs := fun j hj => (hb.cell (p := ⟨g, off + j, none⟩) hg).trans (h j hj)
theorem RdAt.below {W W' : World} {gr g off c : Nat} {xs : List Int} (h : RdAt W gr g off c xs) (hb : Below W.heap.size W W') : RdAt W' gr g off c xs :=
  ⟨(hb.block _ (heap_lt h.blk)).trans h.blk, h.bs.below h.lt hb, h.ne, Nat.lt_of_lt_of_le h.lt hb.size, h.le, h.cm⟩
theorem Rbs.drop {W : World} {g off : Nat} {xs ys : List Int} (h : Rbs W g off (xs ++ ys)) : Rbs W g (off + xs.length) ys := fun j hj => by
  have := h (xs.length + j) (by simp; omega)
  rw [Nat.add_assoc, this]
  rw [List.getD_eq_getElem?_getD, List.getElem?_append_right (by omega), Nat.add_sub_cancel_left, List.getD_eq_getElem?_getD]
theorem rnone (gr g off c : Nat) (xs : List Int) (w : World) (h : RdAt w gr g off c xs) : Calls Try.prog 41 #[rp gr] w fun e w' => e = .returned (.bool false) ∧ w = w' := by
  have c1 : w.cell? ⟨gr, 1, none⟩ = some (.int .i64 0) := cell_of_heap h.blk (j := 1) rfl
  have c2 : w.cell? ⟨gr, 2, none⟩ = some (.bool true) := cell_of_heap h.blk (j := 2) rfl
  go_enter Try.func41, Try.ntmps41
  go_wp2
  go_ret
  exact ⟨rfl, rfl⟩
theorem rerr (gr g off c : Nat) (xs : List Int) (w : World) (h : RdAt w gr g off c xs) : Calls Try.prog 25 #[rp gr] w fun e w' => e = .returned (.int .i64 0) ∧ w = w' := by
  have c1 : w.cell? ⟨gr, 1, none⟩ = some (.int .i64 0) := cell_of_heap h.blk (j := 1) rfl
  have c2 : w.cell? ⟨gr, 2, none⟩ = some (.bool true) := cell_of_heap h.blk (j := 2) rfl
  go_enter Try.func25, Try.ntmps25
  go_wp2
  go_ret
  exact ⟨rfl, rfl⟩
theorem sleft (gr g off c : Nat) (xs : List Int) (w : World) (h : RdAt w gr g off c xs) : Calls Try.prog 40 #[rp gr] w fun e w' => e = .returned (.int .i64 xs.length) ∧ w = w' := by
  have c0 : w.cell? ⟨gr, 0, none⟩ = some (.slice (some ⟨g, off, none⟩) xs.length c) := cell_of_heap h.blk (j := 0) rfl
  go_enter Try.func40, Try.ntmps40
  go_wp2
  go_ret
  exact ⟨rfl, rfl⟩
theorem rleft (gr g off c : Nat) (xs : List Int) (w : World) (h : RdAt w gr g off c xs) : Calls Try.prog 23 #[rp gr] w fun e w' => e = .returned (.int .i64 xs.length) ∧ w = w' := by
  have H := Lib.hid h
  clear h
  go_enter Try.func23, Try.ntmps23
  go_wp2_with (go_at_call 40; refine (sleft _ _ _ _ _ _ H.out).mono ?_; rintro e w1 ⟨rfl, rfl⟩)
  go_ret
  exact ⟨rfl, rfl⟩
theorem rdone (gr g off c : Nat) (w : World) (h : RdAt w gr g off c []) : Calls Try.prog 32 #[rp gr] w fun e w' => e = .returned (.int .i64 0) ∧ w = w' := by
  have c1 : w.cell? ⟨gr, 1, none⟩ = some (.int .i64 0) := cell_of_heap h.blk (j := 1) rfl
  have c2 : w.cell? ⟨gr, 2, none⟩ = some (.bool true) := cell_of_heap h.blk (j := 2) rfl
  have H := Lib.hid h
  clear h
  go_enter Try.func32, Try.ntmps32
  go_wp2_with (go_at_call 23; refine (rleft _ _ _ _ _ _ H.out).mono ?_; rintro e w1 ⟨rfl, rfl⟩)
  go_ret
  exact ⟨rfl, rfl⟩
/-- What a read changes: the reader's block alone. -/
structure Step (gr : Nat) (W W' : World) : Prop where
  size : W'.heap.size = W.heap.size
  far : ∀ k, k ≠ gr → W'.heap[k]? = W.heap[k]?
  bel : ∀ B w0, B ≤ gr → Below B w0 W → Below B w0 W'
theorem Step.trans {gr : Nat} {W W' W'' : World} (h : Step gr W W') (k : Step gr W' W'') : Step gr W W'' :=
  ⟨k.size.trans h.size, fun j hj => (k.far j hj).trans (h.far j hj), fun B w0 hB hb => k.bel B w0 hB (h.bel B w0 hB hb)⟩
theorem Step.set {gr j : Nat} {W : World} {v : Value} : Step gr W (W.setCell ⟨gr, j, none⟩ v) :=
  ⟨by simp, fun k hk => set_ne hk rfl, fun B w0 hB h => h.setCell (p := ⟨gr, j, none⟩) hB v⟩
theorem cell_at {W W' : World} {g o : Nat} (h : W'.heap[g]? = W.heap[g]?) : W'.cell? ⟨g, o, none⟩ = W.cell? ⟨g, o, none⟩ := by
  unfold World.cell?
  rw [show (⟨g, o, none⟩ : Addr).block = g from rfl, h]
theorem upto_end {gr g off off' c c' : Nat} {xs rest : List Int} {w : World} (h : RdAt w gr g off c xs) (hb : Rbs w g off' rest) (hl : rest.length ≤ c') (hc : c' ≤ maxLen) :
    RdAt ((w.setCell ⟨gr, 1, none⟩ (.int .i64 0)).setCell ⟨gr, 0, none⟩ (.slice (some ⟨g, off', none⟩) rest.length c')) gr g off' c' rest ∧ Step gr w ((w.setCell ⟨gr, 1, none⟩ (.int .i64 0)).setCell ⟨gr, 0, none⟩ (.slice (some ⟨g, off', none⟩) rest.length c')) := by
  have hs : Step gr w ((w.setCell ⟨gr, 1, none⟩ (.int .i64 0)).setCell ⟨gr, 0, none⟩ (.slice (some ⟨g, off', none⟩) rest.length c')) := Step.set.trans Step.set
  refine ⟨⟨?_, fun j hj => (cell_at (hs.far g h.ne)).trans (hb j hj), h.ne, by rw [hs.size]; exact h.lt, hl, hc⟩, hs⟩
  rw [set_same (set_same h.blk)]
  rfl
set_option maxHeartbeats 2000000 in
theorem upto_go (gr g off c : Nat) (bs rest : List Int) (most : Int) (w : World) (h : RdAt w gr g off c ((bs.length : Int) :: (bs ++ rest))) (hlen : bs.length ≤ 6) (hb : ∀ x ∈ bs, 0 ≤ x ∧ x ≤ 255) (h0 : 0 < bs.length → bs.getD 0 0 ≠ 0) (hm : valL bs ≤ most) :
    Calls Try.prog 36 #[rp gr, .int .i64 most] w fun e w' => e = .returned (.int .i64 (valL bs)) ∧ (∃ off', RdAt w' gr g off' (c - (1 + bs.length)) rest) ∧ Step gr w w' := by
  have hl : ((bs.length : Int) :: (bs ++ rest)).length = 1 + bs.length + rest.length := by simp; omega
  have hle := h.le
  have hcm := h.cm
  rw [hl] at hle
  have c0 : w.cell? ⟨gr, 0, none⟩ = some (.slice (some ⟨g, off, none⟩) ((bs.length : Int) :: (bs ++ rest)).length c) := cell_of_heap h.blk (j := 0) rfl
  have c1 : w.cell? ⟨gr, 1, none⟩ = some (.int .i64 0) := cell_of_heap h.blk (j := 1) rfl
  have f0 := frozen_of_heap h.blk (j := 0)
  have f1 := frozen_of_heap h.blk (j := 1)
  rw [hl] at c0
  have H := Lib.hid h
  have HB := Lib.hid hb
  have H0 := Lib.hid h0
  obtain ⟨v, hv⟩ : ∃ v, v = valL bs := ⟨_, rfl⟩
  rw [← hv] at hm ⊢
  have HV := Lib.hid hv
  clear h hb h0 hl hv
  go_enter Try.func36, Try.ntmps36
  go_wp2_with (first
    | (go_at_call 41; refine (rnone _ _ _ _ _ _ H.out).mono ?_; rintro e w1 ⟨rfl, rfl⟩)
    | (go_at_call 42; refine (number_go bs rest g off c _ hlen HB.out H0.out H.out.bs hle hcm).mono ?_; rintro e w2 ⟨rfl, rfl⟩; rw [← HV.out]))
  · go_ret
    have hz : rest.length = 0 := by omega
    have hz' := List.eq_nil_of_length_eq_zero hz
    subst hz'
    obtain ⟨k1, k2⟩ := upto_end (off' := off) (c' := 0) (rest := []) H.out (fun j hj => absurd hj (Nat.not_lt_zero j)) (Nat.le_refl _) (Nat.zero_le _)
    exact ⟨rfl, ⟨_, k1⟩, k2⟩
  · go_ret
    have hd := (Rbs.drop (xs := (bs.length : Int) :: bs) (ys := rest) H.out.bs)
    obtain ⟨k1, k2⟩ := upto_end (off' := off + (1 + bs.length)) (c' := c - (1 + bs.length)) (rest := rest) H.out (by rw [show off + (1 + bs.length) = off + ((bs.length : Int) :: bs).length by simp; omega]; exact hd) (by omega) (by omega)
    exact ⟨rfl, ⟨_, k1⟩, k2⟩
end Go.Proofs.Ytidfmpiliinmeaa
