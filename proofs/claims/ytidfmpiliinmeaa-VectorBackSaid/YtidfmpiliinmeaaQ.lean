/- Walk of vector.Put where the vector may be. -/
import Derived.Test.YtidfmpiliinmeaaP
set_option linter.unusedVariables false
set_option linter.unusedSimpArgs false
namespace Go.Proofs.Ytidfmpiliinmeaa
open Go.RowKit
open Go.Proofs.YtidfmpiliinmeaaW.PrintWords (nums Kd ReadsInt print_append_row own_reads pw_own_below shr own_weaken nums_length)
theorem slice24 (g n : Nat) (hn : n ≤ 16) (W : World) : (Instr.sliceAt 24 (.pointer (some ⟨g, 0, none⟩)) none (some (.int .i64 (n : Int))) none).run Try.prog W = .ok (.slice (some ⟨g, 0, none⟩) n 16) W := by
  have h16 : Try.prog.arrayLen 24 = 16 := by kernel_rfl
  have hs : ((sizeOf (Try.prog.elem 24)).run Try.prog W) = .ok 1 W := by kernel_rfl
  rw [run_sliceAt_array_h W 24 _ Try.underlying24 .i64 n (by omega) (by omega), hs, h16]
  simp [slicedAt, Result.andThen, Addr.add]
theorem u8_info : (Try.prog.info? 5).map (fun i => (i.zero, i.size, i.bytes)) = some (some (.int .u8 0), 1, 1) := by kernel_rfl
def PutPost (a : Nat → Int) (w : World) (e : Ending) (w' : World) : Prop := ∃ v, e = .returned (.tuple #[v, .int .i64 0]) ∧ w'.ownsRow w.heap.size 5 1 v (putL a).length (nums .u8 (putL a)) ∧ Below w.heap.size w w'
set_option maxHeartbeats 4000000 in
theorem put_yes (a : Nat → Int) (w : World) (hr : rightB a = true) :
    Calls Try.prog 14 #[.agg #[.int .i64 (a 0), .int .i64 (a 1), .int .i64 (a 2), .int .i64 (a 3), .int .i64 (a 4), .int .i64 (a 5), .int .i64 (a 6), .int .i64 (a 7), .int .i64 (a 8), .int .i64 (a 9), .int .i64 (a 10), .int .i64 (a 11), .int .i64 (a 12), .int .i64 (a 13), .int .i64 (a 14), .int .i64 (a 15)]] w (PutPost a w) := by
  have hall := (right_iff a).1 hr
  have Hr := Lib.hid hr
  have Hall := Lib.hid hall
  clear hall
  go_enter Try.func14, Try.ntmps14
  go_wp2_with (go_at_call 12; refine (right_any a _).mono ?_; rintro e w1 ⟨rfl, hb⟩; obtain ⟨hc, hf⟩ := ch hb; have hz := hb.size)
  have hB : Below w.heap.size w w1 := by (repeat (first | with_reducible exact Below.refl _ _ | with_reducible apply below_alloc | with_reducible apply below_drew1 | with_reducible assumption | (with_reducible refine Keep.below (by assumption)) | (with_reducible refine bel ?_ (by assumption)) | ((with_reducible refine below_set ?_ ?_); rotate_left; (focus (first | assumption | omega | (simp; done) | (simp; omega))))))
  simp at hz
  go_loop [4, 17] (fun s t => ∃ k : Nat, k ≤ 16 ∧ t = .int .i64 k ∧ s = .int .i64 (lastTo a k)) (fun _ t => 16 - (intOf t).toNat)
  case atStart => exact ⟨0, by omega, rfl, rfl⟩
  case round =>
    obtain ⟨k, hk, rfl, rfl⟩ := hrel
    have hl := lastTo_le a k
    by_cases q : k < 16
    · have ik := fun W => ix a k q W
      go_wp2
      · go_round
        case rel => exact ⟨k + 1, by omega, by go_num, by simp only [lastTo]; rw [if_pos (by assumption)]; go_num⟩
        case measure =>
          simp [intOf]
          omega
      · go_round
        case rel => exact ⟨k + 1, by omega, by go_num, by simp only [lastTo]; rw [if_neg (by omega)]⟩
        case measure =>
          simp [intOf]
          omega
    · obtain rfl : k = 16 := by omega
      have hl := lastTo_le a 16
      have hcc : ∀ j, j < 16 → w1.cell? ⟨w.heap.size, j, none⟩ = some (.int .i64 (a j)) := fun j hj => (hc _ _ (by simp)).trans (start_cell (heap_alloc_new w _) (fun i hi => by rcases (show i = 0 ∨ i = 1 ∨ i = 2 ∨ i = 3 ∨ i = 4 ∨ i = 5 ∨ i = 6 ∨ i = 7 ∨ i = 8 ∨ i = 9 ∨ i = 10 ∨ i = 11 ∨ i = 12 ∨ i = 13 ∨ i = 14 ∨ i = 15 by omega) with rfl | rfl | rfl | rfl | rfl | rfl | rfl | rfl | rfl | rfl | rfl | rfl | rfl | rfl | rfl | rfl <;> rfl) j hj)
      have Hcc := Lib.hid hcc
      clear hcc hc hf
      have hN := num_comes (lastTo a 16) (by omega) (by omega)
      have hsl := fun W => slice24 w.heap.size (lastTo a 16) hl W
      have HN := Lib.hid hN
      clear hN
      go_wp2_with (go_at_call 33; refine (PVectorLattice.wire_Num.calls 9 _ _ _ _ HN.out).mono ?_; rintro e w2 ⟨v0, rfl, hR, hb2⟩; have hz2 := hb2.size)
      have hown0 := row_of_R hR
      go_loopw [7, 34] (fun v t wr => ∃ k : Nat, k ≤ lastTo a 16 ∧ t = .int .i64 k ∧ Hid (wr.ownsRow w1.heap.size 5 1 v (numL (lastTo a 16) ++ flatTo a k).length (nums .u8 (numL (lastTo a 16) ++ flatTo a k))) ∧ Hid (Below w1.heap.size w1 wr)) (fun _ t _ => 16 - (intOf t).toNat)
      case atStart =>
        refine ⟨0, by omega, rfl, Lib.hid ?_, Lib.hid hb2⟩
        simp only [flatTo, List.append_nil]
        exact hown0
      case round =>
        obtain ⟨k, hk, rfl, hO, hB3⟩ := hrel
        have hz3 := hB3.out.size
        have hl1 := numL_len (lastTo a 16)
        have hl2 := flatTo_len a k
        by_cases q : k < lastTo a 16
        · have hck : wr.cell? ⟨w.heap.size, k, none⟩ = some (.int .i64 (a k)) := (hB3.out.cell (p := ⟨w.heap.size, k, none⟩) (by show w.heap.size < _; omega)).trans (Hcc.out k (by omega))
          have hak := Hall.out k (by omega)
          have hN2 := num_comes (a k) (by omega) (by omega)
          have HN2 := Lib.hid hN2
          clear hN2 hsl
          have hl3 := numL_len (a k)
          obtain ⟨xs, hxs⟩ : ∃ xs, xs = numL (lastTo a 16) ++ flatTo a k := ⟨_, rfl⟩
          rw [← hxs] at hO
          have hxl : xs.length ≤ 100 := by
            rw [hxs, List.length_append]
            omega
          have Hxs := Lib.hid hxs
          clear hxs
          go_wp2_with (first
            | (go_at_call 33; refine (PVectorLattice.wire_Num.calls 9 _ _ _ _ HN2.out).mono ?_; rintro e w3 ⟨v3, rfl, hR3, hb3⟩; obtain ⟨A3, c3, rfl, hr3⟩ := own_reads (row_of_R hR3); have hO3 := Lib.hid (pw_own_below hO.out hb3); have hr3 := Lib.hid hr3; have hz4 := hb3.size; have hB4 := Lib.hid (hB3.out.trans (hb3.mono hz3)); clear hR3 hb3)
            | (at_builtin; refine print_append_row (w0 := w1) w1.heap.size rfl (.tmp 43) (.tmp 44) 33 5 .u8 1 rfl Try.underlying33 u8_info (by omega) u7 xs (numL (a k)) A3 (numL (a k)).length c3 rfl rfl hO3.out hr3.out hB4.out (by omega) (by omega) ?_; intro v4 w4 hO5 hB5 hg5 hat5; have hO5 := Lib.hid hO5; have hB5 := Lib.hid hB5; clear hg5 hat5))
          go_roundw
          case rel =>
            refine ⟨k + 1, by omega, by go_num, Lib.hid ?_, hB5⟩
            have := hO5.out
            rw [Hxs.out, List.append_assoc] at this
            exact this
          case measure =>
            simp [intOf]
            omega
        · obtain rfl : k = lastTo a 16 := by omega
          go_wp2
          go_ret2
          exact ⟨u7, rfl, own_weaken hO.out hB.size, hB.trans (hB3.out.mono hB.size)⟩
end Go.Proofs.Ytidfmpiliinmeaa
