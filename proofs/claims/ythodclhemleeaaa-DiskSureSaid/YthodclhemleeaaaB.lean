/- Walks of disk's looks. -/
import Derived.Test.YthodclhemleeaaaA
set_option linter.unusedVariables false
set_option linter.unusedSimpArgs false
namespace Go.Proofs.Ythodclhemleeaaa
open Go.RowKit
open Go.Proofs.YthodclhemleeaaaW.PrintWords (nums ReadsInt own_reads own_reads' nums_length print_append_row own_nil)
attribute [local go_sem] max2_int min2_int max_two min_two
structure Dsk where
  log : List Int
  snap : List Int
  sure : Int
  room : Int
  fuse : Int
  off : Bool
def dcells (d : Dsk) (lv sv : Value) : Array Value := #[lv, sv, .int .i64 d.sure, .int .i64 d.room, .int .i64 d.fuse, .bool d.off]
structure DiskAt (W : World) (g : Nat) (d : Dsk) (lv sv : Value) : Prop where
  blk : W.heap[g]? = some (.cells (dcells d lv sv) 44 (0, 0))
  log : Slc W lv d.log
  snap : Slc W sv d.snap
theorem DiskAt.nob {W : World} {g : Nat} {d : Dsk} {lv sv : Value} (h : DiskAt W g d lv sv) (i : Nat) (x : Int) : (dcells d lv sv)[i]? ≠ some (.int .u8 x) := by
  obtain ⟨A, a, rfl, _⟩ := h.log
  obtain ⟨B, b, rfl, _⟩ := h.snap
  rcases i with _ | _ | _ | _ | _ | _ | i <;> simp [dcells]
/-- A store into a disk's block leaves every row of bytes. -/
theorem Slc0.disk {W : World} {v : Value} {xs : List Int} (h : Slc0 W v xs) {g j : Nat} {d : Dsk} {lv sv u : Value} (hD : DiskAt W g d lv sv) : Slc0 (W.setCell ⟨g, j, none⟩ u) v xs := h.set hD.blk hD.nob
structure Ok (d : Dsk) : Prop where
  sure0 : 0 ≤ d.sure
  sure1 : d.sure ≤ d.log.length
  room0 : 1 ≤ d.room
  room1 : d.room ≤ 67108864
  full : (d.log.length : Int) + d.snap.length ≤ d.room
  fuse0 : -1 ≤ d.fuse
  fuse1 : d.fuse ≤ 9223372036854775807
abbrev dp (g : Nat) : Value := .pointer (some ⟨g, 0, none⟩)
theorem DiskAt.below {W W' : World} {g : Nat} {d : Dsk} {lv sv : Value} (h : DiskAt W g d lv sv) (hb : Below W.heap.size W W') : DiskAt W' g d lv sv :=
  ⟨(hb.block _ (heap_lt h.blk)).trans h.blk, h.log.below hb, h.snap.below hb⟩
theorem DiskAt.cellsAt {W : World} {g : Nat} {d : Dsk} {lv sv : Value} (h : DiskAt W g d lv sv) :
    (W.cell? ⟨g, 0, none⟩ = some lv ∧ W.cell? ⟨g, 1, none⟩ = some sv ∧ W.cell? ⟨g, 2, none⟩ = some (.int .i64 d.sure) ∧ W.cell? ⟨g, 3, none⟩ = some (.int .i64 d.room) ∧ W.cell? ⟨g, 4, none⟩ = some (.int .i64 d.fuse) ∧ W.cell? ⟨g, 5, none⟩ = some (.bool d.off)) ∧ ∀ j, W.frozen? ⟨g, j, none⟩ = false :=
  ⟨⟨cell_of_heap h.blk rfl, cell_of_heap h.blk rfl, cell_of_heap h.blk rfl, cell_of_heap h.blk rfl, cell_of_heap h.blk rfl, cell_of_heap h.blk rfl⟩, fun _ => frozen_of_heap h.blk⟩
/-- No disk, or one that nobody made. -/
def Dead (W : World) (p : Value) : Prop := p = .pointer none ∨ ∃ g d lv sv, p = dp g ∧ W.heap[g]? = some (.cells (dcells d lv sv) 44 (0, 0)) ∧ d.room = 0
theorem Dead.below {W W' : World} {p : Value} (h : Dead W p) (hb : Below W.heap.size W W') : Dead W' p := by
  rcases h with h | ⟨g, d, lv, sv, h1, h2, h3⟩
  · exact .inl h
  · exact .inr ⟨g, d, lv, sv, h1, (hb.block _ (heap_lt h2)).trans h2, h3⟩
theorem none_dead (p : Value) (w : World) (h : Dead w p) : Calls Try.prog 25 #[p] w fun e w' => e = .returned (.bool true) ∧ w = w' := by
  rcases h with rfl | ⟨g, d, lv, sv, rfl, h2, h3⟩
  · go_enter Try.func25, Try.ntmps25
    go_wp2
    go_ret
    exact ⟨rfl, rfl⟩
  · have c : w.cell? ⟨g, 3, none⟩ = some (.int .i64 0) := by rw [← h3]; exact cell_of_heap h2 rfl
    clear h2 h3
    go_enter Try.func25, Try.ntmps25
    go_wp2
    go_ret
    exact ⟨rfl, rfl⟩
theorem none_no (g : Nat) (d : Dsk) (lv sv : Value) (w : World) (h : DiskAt w g d lv sv) (hr : 1 ≤ d.room) : Calls Try.prog 25 #[dp g] w fun e w' => e = .returned (.bool false) ∧ w = w' := by
  obtain ⟨⟨c0, c1, c2, c3, c4, c5⟩, f⟩ := h.cellsAt
  have e : (d.room == 0) = false := beq_eq_false_iff_ne.2 (by omega)
  clear h
  go_enter Try.func25, Try.ntmps25
  go_wp2
  go_ret
  exact ⟨rfl, rfl⟩
theorem sure_dead (p : Value) (w : World) (h : Dead w p) : Calls Try.prog 18 #[p] w fun e w' => e = .returned (.int .i64 0) ∧ w = w' := by
  go_enter Try.func18, Try.ntmps18
  go_wp2_with (go_at_call 25; refine (none_dead _ _ h).mono ?_; rintro e w1 ⟨rfl, rfl⟩)
  go_ret
  exact ⟨rfl, rfl⟩
theorem sure_any (g : Nat) (d : Dsk) (lv sv : Value) (w : World) (h : DiskAt w g d lv sv) (hr : 1 ≤ d.room) : Calls Try.prog 18 #[dp g] w fun e w' => e = .returned (.int .i64 d.sure) ∧ w = w' := by
  obtain ⟨⟨c0, c1, c2, c3, c4, c5⟩, f⟩ := h.cellsAt
  have H := Lib.hid h
  clear h
  go_enter Try.func18, Try.ntmps18
  go_wp2_with (go_at_call 25; refine (none_no _ _ _ _ _ H.out hr).mono ?_; rintro e w1 ⟨rfl, rfl⟩)
  go_ret
  exact ⟨rfl, rfl⟩
theorem room_dead (p : Value) (w : World) (h : Dead w p) : Calls Try.prog 24 #[p] w fun e w' => e = .returned (.int .i64 0) ∧ w = w' := by
  go_enter Try.func24, Try.ntmps24
  go_wp2_with (go_at_call 25; refine (none_dead _ _ h).mono ?_; rintro e w1 ⟨rfl, rfl⟩)
  go_ret
  exact ⟨rfl, rfl⟩
theorem room_any (g : Nat) (d : Dsk) (lv sv : Value) (w : World) (h : DiskAt w g d lv sv) (hr : 1 ≤ d.room) : Calls Try.prog 24 #[dp g] w fun e w' => e = .returned (.int .i64 d.room) ∧ w = w' := by
  obtain ⟨⟨c0, c1, c2, c3, c4, c5⟩, f⟩ := h.cellsAt
  have H := Lib.hid h
  clear h
  go_enter Try.func24, Try.ntmps24
  go_wp2_with (go_at_call 25; refine (none_no _ _ _ _ _ H.out hr).mono ?_; rintro e w1 ⟨rfl, rfl⟩)
  go_ret
  exact ⟨rfl, rfl⟩
theorem down_dead (p : Value) (w : World) (h : Dead w p) : Calls Try.prog 16 #[p] w fun e w' => e = .returned (.bool false) ∧ w = w' := by
  go_enter Try.func16, Try.ntmps16
  go_wp2_with (go_at_call 25; refine (none_dead _ _ h).mono ?_; rintro e w1 ⟨rfl, rfl⟩)
  go_ret
  exact ⟨rfl, rfl⟩
theorem down_any (g : Nat) (d : Dsk) (lv sv : Value) (w : World) (h : DiskAt w g d lv sv) (hr : 1 ≤ d.room) : Calls Try.prog 16 #[dp g] w fun e w' => e = .returned (.bool d.off) ∧ w = w' := by
  obtain ⟨⟨c0, c1, c2, c3, c4, c5⟩, f⟩ := h.cellsAt
  have H := Lib.hid h
  clear h
  go_enter Try.func16, Try.ntmps16
  go_wp2_with (go_at_call 25; refine (none_no _ _ _ _ _ H.out hr).mono ?_; rintro e w1 ⟨rfl, rfl⟩)
  go_ret
  exact ⟨by simp, rfl⟩
theorem used_dead (p : Value) (w : World) (h : Dead w p) : Calls Try.prog 23 #[p] w fun e w' => e = .returned (.int .i64 0) ∧ w = w' := by
  go_enter Try.func23, Try.ntmps23
  go_wp2_with (go_at_call 25; refine (none_dead _ _ h).mono ?_; rintro e w1 ⟨rfl, rfl⟩)
  go_ret
  exact ⟨rfl, rfl⟩
theorem used_any (g : Nat) (d : Dsk) (lv sv : Value) (w : World) (h : DiskAt w g d lv sv) (hr : 1 ≤ d.room) (hl : (d.log.length : Int) + d.snap.length ≤ 1099511627776) : Calls Try.prog 23 #[dp g] w fun e w' => e = .returned (.int .i64 ((d.log.length : Int) + d.snap.length)) ∧ ∃ n, w' = w.drewN n := by
  obtain ⟨⟨c0, c1, c2, c3, c4, c5⟩, f⟩ := h.cellsAt
  obtain ⟨A, a, rfl, _⟩ := h.log
  obtain ⟨B, b, rfl, _⟩ := h.snap
  have H := Lib.hid h
  clear h
  go_enter Try.func23, Try.ntmps23
  go_wp2_with (go_at_call 25; refine (none_no _ _ _ _ _ H.out hr).mono ?_; rintro e w1 ⟨rfl, rfl⟩)
  go_quiet (fail)
  go_wp2
  go_ret
  exact ⟨rfl, _, rfl⟩
theorem clone_any (v : Value) (xs : List Int) (w : World) (h : Slc0 w v xs) (hl : xs.length ≤ 1099511627776) : Calls Try.prog 30 #[v] w fun e w' => ∃ v', e = .returned v' ∧ w'.ownsRow w.heap.size 5 1 v' xs.length (nums .u8 xs) ∧ Below w.heap.size w w' := by
  obtain ⟨A, c, rfl, h1, h2, h3, hr⟩ := h
  cases A with
  | none =>
    have hc0 : c = 0 := h3 rfl
    subst hc0
    have hx : xs = [] := List.eq_nil_of_length_eq_zero (by omega)
    subst hx
    have he := fun W => Lib.run_eql_slice_nil (P := Try.prog) W 31 5 none 0 0 0 0 Try.underlying31
    go_enter Try.func30, Try.ntmps30
    go_wp2
    go_ret
    exact ⟨_, rfl, own_nil _ _ _ _, Below.refl _ _⟩
  | some ad =>
    have Hr := Lib.hid hr
    clear hr h3
    have hbw : Below w.heap.size w (w.alloc (.cells #[] 5)) := below_alloc (Below.refl _ _) _
    have hr' : Hid (ReadsInt (w.alloc (.cells #[] 5)) .u8 (some ad) xs.length xs) := Lib.hid (Hr.out.below hbw)
    have ho : Hid ((w.alloc (.cells #[] 5)).ownsRow w.heap.size 5 1 (.slice (some ⟨w.heap.size, 0, none⟩) 0 0) ([] : List Int).length (nums .u8 [])) := Lib.hid (World.ownsRow_lit (base := w.heap.size) (e := 5) (size := 1) w #[] 0 (Nat.le_refl _) (by simp [maxLen]) rfl)
    have he := fun W => Lib.run_eql_slice_nil (P := Try.prog) W 31 5 (some ad) xs.length c 0 0 Try.underlying31
    go_enter Try.func30, Try.ntmps30
    go_wp2_with (at_builtin; refine print_append_row (w0 := w) w.heap.size rfl (.tmp 5) (.tmp 6) 31 5 .u8 1 rfl Try.underlying31 info5 (by omega) _ [] xs (some ad) xs.length c rfl rfl ho.out hr'.out hbw (by simp) (by simp; omega) ?_; intro v4 w4 hO4 hB4 hg4 hat4; have hO4 := Lib.hid hO4; clear hg4 hat4)
    go_ret
    exact ⟨v4, rfl, by simpa using hO4.out, hB4⟩
theorem log_dead (p : Value) (w : World) (h : Dead w p) : Calls Try.prog 17 #[p] w fun e w' => e = .returned (.slice none 0 0) ∧ w = w' := by
  go_enter Try.func17, Try.ntmps17
  go_wp2_with (go_at_call 25; refine (none_dead _ _ h).mono ?_; rintro e w1 ⟨rfl, rfl⟩)
  go_ret
  exact ⟨rfl, rfl⟩
theorem snap_dead (p : Value) (w : World) (h : Dead w p) : Calls Try.prog 19 #[p] w fun e w' => e = .returned (.slice none 0 0) ∧ w = w' := by
  go_enter Try.func19, Try.ntmps19
  go_wp2_with (go_at_call 25; refine (none_dead _ _ h).mono ?_; rintro e w1 ⟨rfl, rfl⟩)
  go_ret
  exact ⟨rfl, rfl⟩
def RowPost (w : World) (xs : List Int) (e : Ending) (w' : World) : Prop := ∃ v', e = .returned v' ∧ w'.ownsRow w.heap.size 5 1 v' xs.length (nums .u8 xs) ∧ Below w.heap.size w w'
theorem log_any (g : Nat) (d : Dsk) (lv sv : Value) (w : World) (h : DiskAt w g d lv sv) (hr : 1 ≤ d.room) (hl : d.log.length ≤ 1099511627776) : Calls Try.prog 17 #[dp g] w (RowPost w d.log) := by
  obtain ⟨⟨c0, c1, c2, c3, c4, c5⟩, f⟩ := h.cellsAt
  have H := Lib.hid h
  clear h
  go_enter Try.func17, Try.ntmps17
  go_wp2_with (first | (go_at_call 25; refine (none_no _ _ _ _ _ H.out hr).mono ?_; rintro e w1 ⟨rfl, rfl⟩) | (go_at_call 30; refine (clone_any _ _ _ H.out.log.s0 hl).mono ?_; rintro e w1 ⟨v1, rfl, ho, hb⟩))
  go_ret
  exact ⟨_, rfl, ho, hb⟩
theorem snap_any (g : Nat) (d : Dsk) (lv sv : Value) (w : World) (h : DiskAt w g d lv sv) (hr : 1 ≤ d.room) (hl : d.snap.length ≤ 1099511627776) : Calls Try.prog 19 #[dp g] w (RowPost w d.snap) := by
  obtain ⟨⟨c0, c1, c2, c3, c4, c5⟩, f⟩ := h.cellsAt
  have H := Lib.hid h
  clear h
  go_enter Try.func19, Try.ntmps19
  go_wp2_with (first | (go_at_call 25; refine (none_no _ _ _ _ _ H.out hr).mono ?_; rintro e w1 ⟨rfl, rfl⟩) | (go_at_call 30; refine (clone_any _ _ _ H.out.snap.s0 hl).mono ?_; rintro e w1 ⟨v1, rfl, ho, hb⟩))
  go_ret
  exact ⟨_, rfl, ho, hb⟩
end Go.Proofs.Ythodclhemleeaaa
