/- The law DiskNil's walk. -/
import Derived.Test.YthodclhemleeaaaJ
set_option linter.unusedVariables false
set_option linter.unusedSimpArgs false
namespace Go.Proofs.Ythodclhemleeaaa
open Go.RowKit
open Go.Proofs.YthodclhemleeaaaW.PrintWords (nums ReadsInt Drawn0 Kd pw_cell_below)
open PDiskNil (S33 k33 rd_T33)
attribute [local go_sem] max2_int min2_int max_two min_two
def av (x : S33) (v : Value) : Array Value := #[.int .i64 x.f0, .int .i64 x.f1, v]
theorem one_act (w : World) (x : S33) (A : Option Addr) (c : Nat) (hS : Slc0 w (.slice A x.f2.length c) x.f2) (h0 : -9223372036854775808 ≤ x.f0 ∧ x.f0 ≤ 9223372036854775807) (h1 : -9223372036854775808 ≤ x.f1 ∧ x.f1 ≤ 9223372036854775807) : Acts (w.alloc (.cells #[.int .i64 x.f0, .int .i64 x.f1, .slice A x.f2.length c] 33)) (some ⟨w.heap.size, 0, none⟩) [x] := by
  refine ⟨by simp [maxLen], fun _ => ⟨_, rfl, fun j p hj => ?_⟩⟩
  rcases j with _ | j
  · obtain rfl := Option.some.inj (show some x = some p from hj)
    refine ⟨_, ⟨A, c, rfl, hS.below (below_alloc (Below.refl _ _) _), h0, h1⟩, fun i u hi => ?_⟩
    have hn := heap_alloc_new w (.cells #[.int .i64 x.f0, .int .i64 x.f1, .slice A x.f2.length c] 33)
    rcases i with _ | _ | _ | i
    · exact cell_of_heap hn hi
    · exact cell_of_heap hn hi
    · exact cell_of_heap hn hi
    · simp at hi
  · simp at hj
set_option maxHeartbeats 400000 in
theorem nil_walk (x : S33) (A : Option Addr) (c : Nat) (w : World) (hS : Slc0 w (.slice A x.f2.length c) x.f2) (h0 : -9223372036854775808 ≤ x.f0 ∧ x.f0 ≤ 9223372036854775807) (h1 : -9223372036854775808 ≤ x.f1 ∧ x.f1 ≤ 9223372036854775807) :
    Calls Try.prog 6 #[.agg #[.int .i64 x.f0, .int .i64 x.f1, .slice A x.f2.length c]] w fun e w' => e = .returned (.bool true) ∧ Below w.heap.size w w' := by
  have hB1 : Below w.heap.size w (w.alloc (.cells #[.int .i64 x.f0, .int .i64 x.f1, .slice A x.f2.length c] 33)) := below_alloc (Below.refl _ _) _
  have hA := one_act _ x A c (hS.below hB1) h0 h1
  rw [show (w.alloc (.cells #[.int .i64 x.f0, .int .i64 x.f1, .slice A x.f2.length c] 33)).heap.size = w.heap.size + 1 from by simp] at hA
  have hA := Lib.hid hA
  have hS1 := Lib.hid (hS.below hB1)
  have hP : ((w.alloc (.cells #[.int .i64 x.f0, .int .i64 x.f1, .slice A x.f2.length c] 33)).alloc (.cells #[.int .i64 x.f0, .int .i64 x.f1, .slice A x.f2.length c] 33)).heap[w.heap.size]? = some (.cells #[.int .i64 x.f0, .int .i64 x.f1, .slice A x.f2.length c] 33 (0, 0)) := (heap_alloc_old _ _ (by simp)).trans (heap_alloc_new w _)
  have hP := Lib.hid hP
  have hB2 := Lib.hid (below_alloc hB1 (.cells #[.int .i64 x.f0, .int .i64 x.f1, .slice A x.f2.length c] 33))
  clear hS h0 h1 hB1
  go_enter Try.func6, Try.ntmps6
  go_wp2_with (first
    | (go_at_call 7; refine (long_any _ 1 [x] _ hA.out (Nat.le_refl _)).mono ?_; rintro e w1 ⟨b, rfl, hb, hsh⟩; have hB := Lib.hid (bel hB2.out hb); have hS1 := Lib.hid ((hS1.out.below (below_alloc (Below.refl _ _) _)).below hb); have hsh := Lib.hid hsh; have hP := Lib.hid ((hb.block _ (heap_lt hP.out)).trans hP.out); clear hb)
    | (go_at_call 8; refine (knows_any _).mono ?_; rintro e w2 ⟨rfl, hb⟩; have hB := Lib.hid (bel hB.out hb)))
  · go_ret
    exact ⟨rfl, hB.out⟩
  · have hbf : b = false := ‹_›
    subst hbf
    have hs3 : x.f2.length ≤ 3000 := (hsh.out rfl).2 x (by simp)
    go_loopw [3, 4] (fun s t wr => ∃ (k : Nat) (q : Option Addr), k ≤ 2 ∧ t = .int .i64 k ∧ s = .pointer q ∧ Dead wr (.pointer q) ∧ Below w1.heap.size w1 wr) (fun _ t _ => 2 - (intOf t).toNat)
    case atStart => exact ⟨0, none, by omega, rfl, rfl, .inl rfl, Below.refl _ _⟩
    case round =>
      obtain ⟨k, q, hk, rfl, rfl, hd, hb⟩ := hrel
      have hP := (hb.block _ (heap_lt hP.out)).trans hP.out
      have c1 := cell_of_heap hP (j := 1) rfl
      have c2 := cell_of_heap hP (j := 2) rfl
      have hS1 := Lib.hid (hS1.out.below hb)
      have hB := Lib.hid (bel hB.out hb)
      have hB1 := Lib.hid hb
      have hd := Lib.hid hd
      clear hb hP
      by_cases hk2 : k < 2
      · go_wp2_with (first
          | (go_at_call 11; refine (cut_dead _ _ _ hd.out).mono ?_; rintro e w1 ⟨rfl, rfl⟩)
          | (go_at_call 20; refine (crash_dead _ _ _ hd.out).mono ?_; rintro e w1 ⟨rfl, rfl⟩)
          | (go_at_call 12; refine (append_dead _ _ x.f2 _ hd.out hS1.out (by omega)).mono ?_; rintro e w4 ⟨rfl, hb⟩; have c2 := pw_cell_below hb c2; have hS1 := Lib.hid (hS1.out.below hb); have hB := Lib.hid (bel hB.out hb); have hB1 := Lib.hid (bel hB1.out hb); have hd := Lib.hid (hd.out.below hb); clear hb)
          | (go_at_call 14; refine (swap_dead _ _ x.f2 _ hd.out hS1.out (by omega)).mono ?_; rintro e w6 ⟨rfl, hb⟩; have hB := Lib.hid (bel hB.out hb); have hB1 := Lib.hid (bel hB1.out hb); have hd := Lib.hid (hd.out.below hb); clear hb)
          | (go_at_call 13; refine (sync_dead _ _ hd.out).mono ?_; rintro e w5 ⟨rfl, hb⟩; have c2 := pw_cell_below hb c2; have hS1 := Lib.hid (hS1.out.below hb); have hB := Lib.hid (bel hB.out hb); have hB1 := Lib.hid (bel hB1.out hb); have hd := Lib.hid (hd.out.below hb); clear hb)
          | (go_at_call 15; refine (clear_dead _ _ hd.out).mono ?_; rintro e w7 ⟨rfl, hb⟩; have hB := Lib.hid (bel hB.out hb); have hB1 := Lib.hid (bel hB1.out hb); have hd := Lib.hid (hd.out.below hb); clear hb)
          | (go_at_call 10; refine (num_any _ _).mono ?_; rintro e w1 ⟨rfl, rfl⟩)
          | (go_at_call 17; refine (log_dead _ _ hd.out).mono ?_; rintro e w1 ⟨rfl, rfl⟩)
          | (go_at_call 19; refine (snap_dead _ _ hd.out).mono ?_; rintro e w1 ⟨rfl, rfl⟩)
          | (go_at_call 18; refine (sure_dead _ _ hd.out).mono ?_; rintro e w1 ⟨rfl, rfl⟩)
          | (go_at_call 23; refine (used_dead _ _ hd.out).mono ?_; rintro e w1 ⟨rfl, rfl⟩)
          | (go_at_call 24; refine (room_dead _ _ hd.out).mono ?_; rintro e w1 ⟨rfl, rfl⟩)
          | (go_at_call 16; refine (down_dead _ _ hd.out).mono ?_; rintro e w1 ⟨rfl, rfl⟩))
        go_roundw
        case rel =>
          refine ⟨k + 1, some ⟨w7.heap.size, 0, none⟩, by omega, by go_num, rfl, .inr ⟨w7.heap.size, ⟨[], [], 0, 0, 0, false⟩, .slice none 0 0, .slice none 0 0, rfl, heap_alloc_new w7 _, rfl⟩, below_alloc hB1.out _⟩
        case measure =>
          simp [intOf]
          omega
      · have hk3 : k = 2 := by omega
        subst hk3
        go_wp2_with (go_at_call 8; refine (knows_any _).mono ?_; rintro e w8 ⟨rfl, hb⟩; have hB := Lib.hid (bel hB.out hb))
        go_ret
        exact ⟨rfl, hB.out⟩
end Go.Proofs.Ythodclhemleeaaa
