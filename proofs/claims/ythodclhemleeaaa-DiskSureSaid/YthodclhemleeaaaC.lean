/- Walks of disk.New, Cut, Crash, the four literals. -/
import Derived.Test.YthodclhemleeaaaB
import Derived.Deep.RegionLaw
set_option linter.unusedVariables false
set_option linter.unusedSimpArgs false
namespace Go.Proofs.Ythodclhemleeaaa
open Go.RowKit
open Go.Proofs.YthodclhemleeaaaW.PrintWords (nums ReadsInt own_reads own_reads' nums_length print_append_row own_nil)
attribute [local go_sem] max2_int min2_int max_two min_two
/-- What turned: the block g alone; new blocks. -/
structure Only (g : Nat) (W W' : World) : Prop where
  size : W.heap.size ≤ W'.heap.size
  far : ∀ k, k < W.heap.size → k ≠ g → W'.heap[k]? = W.heap[k]?
  bel : ∀ B w0, B ≤ g → Below B w0 W → Below B w0 W'
theorem Only.refl (g : Nat) (W : World) : Only g W W := ⟨Nat.le_refl _, fun _ _ _ => rfl, fun _ _ _ h => h⟩
theorem Only.trans {g : Nat} {W W' W'' : World} (h : Only g W W') (k : Only g W' W'') : Only g W W'' :=
  ⟨Nat.le_trans h.size k.size, fun j hj hne => (k.far j (Nat.lt_of_lt_of_le hj h.size) hne).trans (h.far j hj hne), fun B w0 hB hb => k.bel B w0 hB (h.bel B w0 hB hb)⟩
theorem Only.of_below {g : Nat} {W W' : World} (hb : Below W.heap.size W W') (hg : g < W.heap.size) : Only g W W' :=
  ⟨hb.size, fun k hk _ => hb.block k hk, fun B w0 hB h => h.trans (hb.mono (by omega))⟩
theorem Only.set {g j : Nat} {W : World} {v : Value} : Only g W (W.setCell ⟨g, j, none⟩ v) :=
  ⟨by simp, fun k _ hne => Below.heap_setCell _ _ _ _ (by simpa using hne), fun B w0 hB h => h.setCell (p := ⟨g, j, none⟩) hB v⟩
theorem Only.slc {g : Nat} {W W' : World} (h : Only g W W') {v : Value} {xs : List Int} (hs : Slc W v xs) {cs : Array Value} {T : TypeId} {f : Nat × Nat} (hg : W.heap[g]? = some (.cells cs T f)) (hT : T ≠ 5) : Slc W' v xs :=
  hs.keep fun k cells fr hk => h.far k (heap_lt hk) (by
    rintro rfl
    rw [hk] at hg
    injection hg with hg
    injection hg with _ hg
    exact hT hg.symm)
/-- A store into a disk's block. -/
theorem DiskAt.set {W : World} {g : Nat} {d : Dsk} {lv sv : Value} (h : DiskAt W g d lv sv) (j : Nat) (v : Value) (d' : Dsk) (lv' sv' : Value) (hc : (dcells d lv sv).setIfInBounds j v = dcells d' lv' sv') (hl : Slc W lv' d'.log) (hs : Slc W sv' d'.snap) : DiskAt (W.setCell ⟨g, j, none⟩ v) g d' lv' sv' :=
  ⟨by rw [← hc]; exact set_same h.blk, hl.set h.blk (by decide), hs.set h.blk (by decide)⟩
def cutD (d : Dsk) (n : Int) : Dsk := { d with fuse := max n (-1) }
theorem cut_dead (p : Value) (n : Int) (w : World) (h : Dead w p) : Calls Try.prog 11 #[p, .int .i64 n] w fun e w' => e = .returned (.tuple #[]) ∧ w = w' := by
  go_enter Try.func11, Try.ntmps11
  go_wp2_with (go_at_call 25; refine (none_dead _ _ h).mono ?_; rintro e w1 ⟨rfl, rfl⟩)
  go_end0
  exact ⟨rfl, rfl⟩
theorem cut_any (g : Nat) (d : Dsk) (lv sv : Value) (n : Int) (w : World) (h : DiskAt w g d lv sv) (hr : 1 ≤ d.room) : Calls Try.prog 11 #[dp g, .int .i64 n] w fun e w' => e = .returned (.tuple #[]) ∧ DiskAt w' g (cutD d n) lv sv ∧ Only g w w' := by
  obtain ⟨⟨c0, c1, c2, c3, c4, c5⟩, f⟩ := h.cellsAt
  have H := Lib.hid h
  clear h
  go_enter Try.func11, Try.ntmps11
  go_wp2_with (go_at_call 25; refine (none_no _ _ _ _ _ H.out hr).mono ?_; rintro e w1 ⟨rfl, rfl⟩)
  go_end0
  exact ⟨rfl, H.out.set 4 _ _ _ _ rfl H.out.log H.out.snap, Only.set⟩
theorem Only.drew {g : Nat} {W W' : World} (h : Only g W W') : Only g W W'.drew := ⟨h.size, h.far, fun B w0 hB hb => (h.bel B w0 hB hb).drew⟩
theorem DiskAt.drew {W : World} {g : Nat} {d : Dsk} {lv sv : Value} (h : DiskAt W g d lv sv) : DiskAt W.drew g d lv sv := ⟨h.blk, h.log.keep fun _ _ _ _ => rfl, h.snap.keep fun _ _ _ _ => rfl⟩
theorem wp_append_of {o : Oper} {a : Act} {K : Act → World → Prop} {Q : Exit → Act → World → Prop} {W W' : World} {v' : Value} (s x : Operand) (ho : o.op = .call { callee := .builtin .append, args := #[s, x], argTypes := #[31, 31] }) (hty : o.type = 31)
    (v u : Value) (hs : a.eval s = v) (hx : a.eval x = u) (hrun : (Builtin.append_ #[31, 31] 31 #[v, u]).run Try.prog W = .ok v' W') (h : K (a.put o.dst v') W') : o.wp Try.prog a W K Q := by
  unfold Oper.wp execOp
  simp only [ho, hty, resolve, invoke, builtin, Sem.run_bind, Sem.run_pure, Result.andThen_ok, List.map_toArray, List.map_cons, List.map_nil, hs, hx, hrun]
  exact h
theorem ne_of_types {W : World} {g b : Nat} {cs cs' : Array Value} {T T' : TypeId} {f f' : Nat × Nat} (h : W.heap[g]? = some (.cells cs T f)) (h' : W.heap[b]? = some (.cells cs' T' f')) (hne : T ≠ T') : g ≠ b := by
  rintro rfl
  rw [h] at h'
  injection h' with h'
  injection h' with _ h'
  exact hne h'
end Go.Proofs.Ythodclhemleeaaa
