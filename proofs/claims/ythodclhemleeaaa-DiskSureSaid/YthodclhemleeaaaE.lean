/- Walks of disk's operate. -/
import Derived.Test.YthodclhemleeaaaD
set_option linter.unusedVariables false
set_option linter.unusedSimpArgs false
namespace Go.Proofs.Ythodclhemleeaaa
open Go.RowKit
open Go.Proofs.YthodclhemleeaaaW.PrintWords (nums ReadsInt own_reads own_reads' nums_length print_append_row own_nil)
attribute [local go_sem] max2_int min2_int max_two min_two
def burn (d : Dsk) : Dsk := { d with off := (d.fuse == 0), fuse := max d.fuse 0 - 1 }
def opE (d : Dsk) : Int := if d.fuse = 0 then 9 else 0
def OpPost (w : World) (g : Nat) (d : Dsk) (n : Int) (e : Ending) (w' : World) : Prop := e = .returned (.int .i64 n) ∧ (∃ lv sv, DiskAt w' g d lv sv) ∧ Only g w w'
theorem operate_dead (p : Value) (used : Int) (half : Bool) (fv : Value) (w : World) (h : Dead w p) : Calls Try.prog 26 #[p, .int .i64 used, .bool half, fv] w fun e w' => e = .returned (.int .i64 1) ∧ w = w' := by
  go_enter Try.func26, Try.ntmps26
  go_wp2_with (go_at_call 25; refine (none_dead _ _ h).mono ?_; rintro e w1 ⟨rfl, rfl⟩)
  go_ret
  exact ⟨rfl, rfl⟩
theorem operate_off (g : Nat) (d : Dsk) (lv sv : Value) (used : Int) (half : Bool) (fv : Value) (w : World) (h : DiskAt w g d lv sv) (hr : 1 ≤ d.room) (ho : d.off = true) : Calls Try.prog 26 #[dp g, .int .i64 used, .bool half, fv] w (OpPost w g d 9) := by
  obtain ⟨⟨c0, c1, c2, c3, c4, c5⟩, f⟩ := h.cellsAt
  rw [ho] at c5
  have H := Lib.hid h
  clear h ho
  go_enter Try.func26, Try.ntmps26
  go_wp2_with (go_at_call 25; refine (none_no _ _ _ _ _ H.out hr).mono ?_; rintro e w1 ⟨rfl, rfl⟩)
  go_ret
  exact ⟨rfl, ⟨_, _, H.out⟩, Only.refl _ _⟩
theorem operate_full (g : Nat) (d : Dsk) (lv sv : Value) (used : Int) (half : Bool) (fv : Value) (w : World) (h : DiskAt w g d lv sv) (hr : 1 ≤ d.room) (ho : d.off = false) (hu : d.room < used) : Calls Try.prog 26 #[dp g, .int .i64 used, .bool half, fv] w (OpPost w g d 7) := by
  obtain ⟨⟨c0, c1, c2, c3, c4, c5⟩, f⟩ := h.cellsAt
  rw [ho] at c5
  have H := Lib.hid h
  clear h ho
  go_enter Try.func26, Try.ntmps26
  go_wp2_with (go_at_call 25; refine (none_no _ _ _ _ _ H.out hr).mono ?_; rintro e w1 ⟨rfl, rfl⟩)
  go_ret
  exact ⟨rfl, ⟨_, _, H.out⟩, Only.refl _ _⟩
theorem opE_zero {d : Dsk} (h : d.fuse = 0) : opE d = 9 := if_pos h
theorem opE_go {d : Dsk} (h : ¬ d.fuse = 0) : opE d = 0 := if_neg h
/-- The world behind the fuse. -/
theorem burnt (g : Nat) (d : Dsk) (lv sv : Value) (w : World) (h : DiskAt w g d lv sv) (b : Bool) (m : Int) (hb : (d.fuse == 0) = b) (hm : max d.fuse 0 - 1 = m) :
    DiskAt ((w.setCell ⟨g, 5, none⟩ (.bool b)).setCell ⟨g, 4, none⟩ (.int .i64 m)) g (burn d) lv sv := by
  subst hb hm
  exact (h.set 5 (.bool (d.fuse == 0)) { d with off := (d.fuse == 0) } _ _ rfl h.log h.snap).set 4 (.int .i64 (max d.fuse 0 - 1)) (burn d) _ _ rfl (h.log.set h.blk (by decide)) (h.snap.set h.blk (by decide))
theorem operate_stop (g : Nat) (d : Dsk) (lv sv : Value) (used : Int) (fv : Value) (w : World) (h : DiskAt w g d lv sv) (hr : 1 ≤ d.room) (ho : d.off = false) (hu : used ≤ d.room) (hf : d.fuse = 0) : Calls Try.prog 26 #[dp g, .int .i64 used, .bool false, fv] w (OpPost w g (burn d) 9) := by
  obtain ⟨⟨c0, c1, c2, c3, c4, c5⟩, f⟩ := h.cellsAt
  rw [ho] at c5
  rw [hf] at c4
  have HB := burnt g d lv sv w h true (-1) (by rw [hf]; rfl) (by rw [hf]; rfl)
  have H := Lib.hid h
  have HB := Lib.hid HB
  clear h ho hf
  go_enter Try.func26, Try.ntmps26
  go_wp2_with (go_at_call 25; refine (none_no _ _ _ _ _ H.out hr).mono ?_; rintro e w1 ⟨rfl, rfl⟩)
  go_ret
  exact ⟨rfl, ⟨_, _, HB.out⟩, Only.set.trans Only.set⟩
set_option maxHeartbeats 4000000 in
theorem operate_app_z (g b0 : Nat) (d : Dsk) (lv sv : Value) (used : Int) (w : World) (h : DiskAt w g d lv sv) (hb0 : w.heap[b0]? = some (.cells #[dp g] 25 (0, 0))) (b1 : Nat) (bv : Value) (bs : List Int) (hb1 : w.heap[b1]? = some (.cells #[bv] 31 (0, 0))) (hbs : Slc0 w bv bs) (hbl : d.log.length + bs.length ≤ 1099511627776) (hr : 1 ≤ d.room) (ho : d.off = false) (hu : used ≤ d.room) (hf : d.fuse = 0) (hf0 : -1 ≤ d.fuse) (hf1 : d.fuse ≤ 9223372036854775807) :
    Calls Try.prog 26 #[dp g, .int .i64 used, .bool true, .func (.func 27) #[] #[.pointer (some ⟨b0, 0, none⟩), .pointer (some ⟨b1, 0, none⟩)]] w (OpPost w g (appD (burn d) bs) 9) := by
  obtain ⟨⟨c0, c1, c2, c3, c4, c5⟩, f⟩ := h.cellsAt
  rw [ho] at c5
  have hbo : (burn d).off = true := by show (d.fuse == 0) = true; rw [hf]; rfl
  rw [hf] at c4
  have HB := burnt g d lv sv w h true (-1) (by rw [hf]; rfl) (by rw [hf]; rfl)
  have HB0 := Lib.hid hb0
  have hne := ne_of_types h.blk hb0 (by decide)
  have HB1 := Lib.hid hb1
  have HBS := Lib.hid hbs
  have hne1 := ne_of_types h.blk hb1 (by decide)
  clear hb1 hbs
  have H := Lib.hid h
  have HB := Lib.hid HB
  clear h ho hb0 hf
  go_enter Try.func26, Try.ntmps26
  go_wp2_with (first
    | (go_at_call 25; refine (none_no _ _ _ _ _ H.out hr).mono ?_; rintro e w1 ⟨rfl, rfl⟩)
    | (go_at_call 27; go_must (refine (app_lit g b0 (burn d) lv sv _ HB.out (by rw [Below.heap_setCell _ _ _ _ (by simpa using fun e => hne e.symm), Below.heap_setCell _ _ _ _ (by simpa using fun e => hne e.symm)]; exact HB0.out) b1 bv bs (by rw [Below.heap_setCell _ _ _ _ (by simpa using fun e => hne1 e.symm), Below.heap_setCell _ _ _ _ (by simpa using fun e => hne1 e.symm)]; exact HB1.out) ((HBS.out.disk H.out).disk (H.out.set 5 (.bool true) { d with off := true } _ _ rfl H.out.log H.out.snap)) hbl).mono ?_); rintro e w1 ⟨rfl, ⟨lv', sv', hD'⟩, hO⟩; obtain ⟨⟨k0, k1, k2, k3, k4, k5⟩, kf⟩ := hD'.cellsAt; rw [show (appD (burn d) bs).off = true from hbo] at k5; have hD' := Lib.hid hD'; have hO := Lib.hid hO))
  go_ret
  exact ⟨rfl, ⟨_, _, hD'.out⟩, (Only.set.trans Only.set).trans hO.out⟩
set_option maxHeartbeats 4000000 in
theorem operate_app_go (g b0 : Nat) (d : Dsk) (lv sv : Value) (used : Int) (w : World) (h : DiskAt w g d lv sv) (hb0 : w.heap[b0]? = some (.cells #[dp g] 25 (0, 0))) (b1 : Nat) (bv : Value) (bs : List Int) (hb1 : w.heap[b1]? = some (.cells #[bv] 31 (0, 0))) (hbs : Slc0 w bv bs) (hbl : d.log.length + bs.length ≤ 1099511627776) (hr : 1 ≤ d.room) (ho : d.off = false) (hu : used ≤ d.room) (hf : ¬ d.fuse = 0) (hf0 : -1 ≤ d.fuse) (hf1 : d.fuse ≤ 9223372036854775807) :
    Calls Try.prog 26 #[dp g, .int .i64 used, .bool true, .func (.func 27) #[] #[.pointer (some ⟨b0, 0, none⟩), .pointer (some ⟨b1, 0, none⟩)]] w (OpPost w g (appD (burn d) bs) 0) := by
  obtain ⟨⟨c0, c1, c2, c3, c4, c5⟩, f⟩ := h.cellsAt
  rw [ho] at c5
  have hfb : (d.fuse == 0) = false := beq_eq_false_iff_ne.2 hf
  have hbo : (burn d).off = false := hfb
  have HB := burnt g d lv sv w h false _ hfb rfl
  have HB0 := Lib.hid hb0
  have hne := ne_of_types h.blk hb0 (by decide)
  have HB1 := Lib.hid hb1
  have HBS := Lib.hid hbs
  have hne1 := ne_of_types h.blk hb1 (by decide)
  clear hb1 hbs
  have H := Lib.hid h
  have HB := Lib.hid HB
  clear h ho hb0 hf
  go_enter Try.func26, Try.ntmps26
  go_wp2_with (first
    | (go_at_call 25; refine (none_no _ _ _ _ _ H.out hr).mono ?_; rintro e w1 ⟨rfl, rfl⟩)
    | (go_at_call 27; go_must (refine (app_lit g b0 (burn d) lv sv _ HB.out (by rw [Below.heap_setCell _ _ _ _ (by simpa using fun e => hne e.symm), Below.heap_setCell _ _ _ _ (by simpa using fun e => hne e.symm)]; exact HB0.out) b1 bv bs (by rw [Below.heap_setCell _ _ _ _ (by simpa using fun e => hne1 e.symm), Below.heap_setCell _ _ _ _ (by simpa using fun e => hne1 e.symm)]; exact HB1.out) ((HBS.out.disk H.out).disk (H.out.set 5 (.bool false) { d with off := false } _ _ rfl H.out.log H.out.snap)) hbl).mono ?_); rintro e w1 ⟨rfl, ⟨lv', sv', hD'⟩, hO⟩; obtain ⟨⟨k0, k1, k2, k3, k4, k5⟩, kf⟩ := hD'.cellsAt; rw [show (appD (burn d) bs).off = false from hbo] at k5; have hD' := Lib.hid hD'; have hO := Lib.hid hO))
  go_ret
  exact ⟨rfl, ⟨_, _, hD'.out⟩, (Only.set.trans Only.set).trans hO.out⟩
set_option maxHeartbeats 4000000 in
theorem operate_sync_go (g b0 : Nat) (d : Dsk) (lv sv : Value) (used : Int) (w : World) (h : DiskAt w g d lv sv) (hb0 : w.heap[b0]? = some (.cells #[dp g] 25 (0, 0))) (hr : 1 ≤ d.room) (ho : d.off = false) (hu : used ≤ d.room) (hf : ¬ d.fuse = 0) (hf0 : -1 ≤ d.fuse) (hf1 : d.fuse ≤ 9223372036854775807) :
    Calls Try.prog 26 #[dp g, .int .i64 used, .bool false, .func (.func 28) #[] #[.pointer (some ⟨b0, 0, none⟩)]] w (OpPost w g (syncD (burn d)) 0) := by
  obtain ⟨⟨c0, c1, c2, c3, c4, c5⟩, f⟩ := h.cellsAt
  rw [ho] at c5
  have hfb : (d.fuse == 0) = false := beq_eq_false_iff_ne.2 hf
  have hbo : (burn d).off = false := hfb
  have HB := burnt g d lv sv w h false _ hfb rfl
  have HB0 := Lib.hid hb0
  have hne := ne_of_types h.blk hb0 (by decide)
  have H := Lib.hid h
  have HB := Lib.hid HB
  clear h ho hb0 hf
  go_enter Try.func26, Try.ntmps26
  go_wp2_with (first
    | (go_at_call 25; refine (none_no _ _ _ _ _ H.out hr).mono ?_; rintro e w1 ⟨rfl, rfl⟩)
    | (go_at_call 28; go_must (refine (sync_lit g b0 (burn d) lv sv _ HB.out (by rw [Below.heap_setCell _ _ _ _ (by simpa using fun e => hne e.symm), Below.heap_setCell _ _ _ _ (by simpa using fun e => hne e.symm)]; exact HB0.out)).mono ?_); rintro e w1 ⟨rfl, ⟨lv', sv', hD'⟩, hO⟩; obtain ⟨⟨k0, k1, k2, k3, k4, k5⟩, kf⟩ := hD'.cellsAt; rw [show (syncD (burn d)).off = false from hbo] at k5; have hD' := Lib.hid hD'; have hO := Lib.hid hO))
  go_ret
  exact ⟨rfl, ⟨_, _, hD'.out⟩, (Only.set.trans Only.set).trans hO.out⟩
set_option maxHeartbeats 4000000 in
theorem operate_swap_go (g b0 : Nat) (d : Dsk) (lv sv : Value) (used : Int) (w : World) (h : DiskAt w g d lv sv) (hb0 : w.heap[b0]? = some (.cells #[dp g] 25 (0, 0))) (b1 : Nat) (bv : Value) (bs : List Int) (hb1 : w.heap[b1]? = some (.cells #[bv] 31 (0, 0))) (hbs : Slc0 w bv bs) (hbl : bs.length ≤ 1099511627776) (hr : 1 ≤ d.room) (ho : d.off = false) (hu : used ≤ d.room) (hf : ¬ d.fuse = 0) (hf0 : -1 ≤ d.fuse) (hf1 : d.fuse ≤ 9223372036854775807) :
    Calls Try.prog 26 #[dp g, .int .i64 used, .bool false, .func (.func 29) #[] #[.pointer (some ⟨b1, 0, none⟩), .pointer (some ⟨b0, 0, none⟩)]] w (OpPost w g (swapD (burn d) bs) 0) := by
  obtain ⟨⟨c0, c1, c2, c3, c4, c5⟩, f⟩ := h.cellsAt
  rw [ho] at c5
  have hfb : (d.fuse == 0) = false := beq_eq_false_iff_ne.2 hf
  have hbo : (burn d).off = false := hfb
  have HB := burnt g d lv sv w h false _ hfb rfl
  have HB0 := Lib.hid hb0
  have hne := ne_of_types h.blk hb0 (by decide)
  have HB1 := Lib.hid hb1
  have HBS := Lib.hid hbs
  have hne1 := ne_of_types h.blk hb1 (by decide)
  clear hb1 hbs
  have H := Lib.hid h
  have HB := Lib.hid HB
  clear h ho hb0 hf
  go_enter Try.func26, Try.ntmps26
  go_wp2_with (first
    | (go_at_call 25; refine (none_no _ _ _ _ _ H.out hr).mono ?_; rintro e w1 ⟨rfl, rfl⟩)
    | (go_at_call 29; go_must (refine (swap_lit g b0 (burn d) lv sv _ HB.out (by rw [Below.heap_setCell _ _ _ _ (by simpa using fun e => hne e.symm), Below.heap_setCell _ _ _ _ (by simpa using fun e => hne e.symm)]; exact HB0.out) b1 bv bs (by rw [Below.heap_setCell _ _ _ _ (by simpa using fun e => hne1 e.symm), Below.heap_setCell _ _ _ _ (by simpa using fun e => hne1 e.symm)]; exact HB1.out) ((HBS.out.disk H.out).disk (H.out.set 5 (.bool false) { d with off := false } _ _ rfl H.out.log H.out.snap)) hbl).mono ?_); rintro e w1 ⟨rfl, ⟨lv', sv', hD'⟩, hO⟩; obtain ⟨⟨k0, k1, k2, k3, k4, k5⟩, kf⟩ := hD'.cellsAt; rw [show (swapD (burn d) bs).off = false from hbo] at k5; have hD' := Lib.hid hD'; have hO := Lib.hid hO))
  go_ret
  exact ⟨rfl, ⟨_, _, hD'.out⟩, (Only.set.trans Only.set).trans hO.out⟩
set_option maxHeartbeats 4000000 in
theorem operate_clear_go (g b0 : Nat) (d : Dsk) (lv sv : Value) (used : Int) (w : World) (h : DiskAt w g d lv sv) (hb0 : w.heap[b0]? = some (.cells #[dp g] 25 (0, 0))) (hr : 1 ≤ d.room) (ho : d.off = false) (hu : used ≤ d.room) (hf : ¬ d.fuse = 0) (hf0 : -1 ≤ d.fuse) (hf1 : d.fuse ≤ 9223372036854775807) :
    Calls Try.prog 26 #[dp g, .int .i64 used, .bool false, .func (.func 31) #[] #[.pointer (some ⟨b0, 0, none⟩)]] w (OpPost w g (clearD (burn d)) 0) := by
  obtain ⟨⟨c0, c1, c2, c3, c4, c5⟩, f⟩ := h.cellsAt
  rw [ho] at c5
  have hfb : (d.fuse == 0) = false := beq_eq_false_iff_ne.2 hf
  have hbo : (burn d).off = false := hfb
  have HB := burnt g d lv sv w h false _ hfb rfl
  have HB0 := Lib.hid hb0
  have hne := ne_of_types h.blk hb0 (by decide)
  have H := Lib.hid h
  have HB := Lib.hid HB
  clear h ho hb0 hf
  go_enter Try.func26, Try.ntmps26
  go_wp2_with (first
    | (go_at_call 25; refine (none_no _ _ _ _ _ H.out hr).mono ?_; rintro e w1 ⟨rfl, rfl⟩)
    | (go_at_call 31; go_must (refine (clear_lit g b0 (burn d) lv sv _ HB.out (by rw [Below.heap_setCell _ _ _ _ (by simpa using fun e => hne e.symm), Below.heap_setCell _ _ _ _ (by simpa using fun e => hne e.symm)]; exact HB0.out)).mono ?_); rintro e w1 ⟨rfl, ⟨lv', sv', hD'⟩, hO⟩; obtain ⟨⟨k0, k1, k2, k3, k4, k5⟩, kf⟩ := hD'.cellsAt; rw [show (clearD (burn d)).off = false from hbo] at k5; have hD' := Lib.hid hD'; have hO := Lib.hid hO))
  go_ret
  exact ⟨rfl, ⟨_, _, hD'.out⟩, (Only.set.trans Only.set).trans hO.out⟩
end Go.Proofs.Ythodclhemleeaaa
