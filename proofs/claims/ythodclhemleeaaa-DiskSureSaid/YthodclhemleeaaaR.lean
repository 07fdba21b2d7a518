/- The law DiskSure's walk. -/
import Derived.Test.YthodclhemleeaaaQ
set_option linter.unusedVariables false
set_option linter.unusedSimpArgs false
namespace Go.Proofs.Ythodclhemleeaaa
open Go.RowKit
open Go.Proofs.YthodclhemleeaaaW.PrintWords (nums ReadsInt Drawn0 Kd pw_cell_below print_append_row own_string)
open PDiskNil (S33 k33 rd_T33)
attribute [local go_sem] max2_int min2_int max_two min_two
attribute [local go_sem] Go.strOfNums_size
set_option maxRecDepth 10000 in
set_option maxHeartbeats 2000000 in
theorem sure_walk (A : Option Addr) (c : Nat) (xs : List S33) (w : World) (hc : xs.length ≤ c) (hcm : c ≤ maxLen) (hA : Acts w A xs) :
    Calls Try.prog 4 #[.slice A xs.length c] w fun e w' => e = .returned (.bool true) ∧ Below w.heap.size w w' := by
  have HA := Lib.hid hA
  clear hA
  go_enter Try.func4, Try.ntmps4
  go_wp2_with (first
    | (go_at_call 7; refine (long_any _ _ _ _ HA.out hc).mono ?_; rintro e w1 ⟨b, rfl, hb, hsh⟩; have hB := Lib.hid hb; have hsh := Lib.hid hsh; clear hb)
    | (go_at_call 8; refine (knows_any _).mono ?_; rintro e w2 ⟨rfl, hb⟩; have hB := Lib.hid (bel hB.out hb); (try have hD := Lib.hid (hD.out.below hb)); clear hb)
    | (go_at_call 9; refine (new_any 1048576 _ (by decide) (by decide)).mono ?_; rintro e w3 ⟨rfl, hD, hb⟩; have hg := Lib.hid hB.out.size; have hB := Lib.hid (bel hB.out hb); have hD := Lib.hid hD; clear hb)
    | (go_at_call 10; refine (num_any _ _).mono ?_; rintro e w1 ⟨rfl, rfl⟩))
  · go_ret
    exact ⟨rfl, hB.out⟩
  · have hbf : b = false := ‹_›
    subst hbf
    obtain ⟨hx, hxs⟩ := hsh.out rfl
    have hxs := Lib.hid hxs
    clear hsh
    go_loopw [5] (fun t wr => ∃ (i : Nat) (d : Dsk) (lv sv : Value), i ≤ xs.length ∧ t = .int .i64 i ∧ DiskAt wr w1.heap.size d lv sv ∧ Sr d i ∧ Below w.heap.size w wr) (fun t _ => xs.length - (intOf t).toNat)
    case atStart => exact ⟨0, _, _, _, by omega, rfl, hD.out, ⟨⟨by decide, by decide, by decide, by decide, by decide, by decide, by decide⟩, rfl, by decide, by decide⟩, hB.out⟩
    case round =>
      obtain ⟨i, d, lv, sv, hi, rfl, hD, hF, hB⟩ := hrel
      by_cases hil : i < xs.length
      · obtain ⟨x, hxi⟩ : ∃ x, xs[i]? = some x := ⟨_, List.getElem?_eq_getElem hil⟩
        have hx3 := hxs.out x (List.mem_of_getElem? hxi)
        have HAr := HA.out.below hB
        obtain ⟨ad, A2, c2, rfl, e0, e1, e2, hS, hSw0, hb0, hb1⟩ := Acts.at2 HA.out hB hxi
        have hi150 : i < 150 := by omega
        obtain ⟨q0, q1⟩ : 0 ≤ d.sure ∧ d.sure ≤ d.log.length := ⟨hF.ok.sure0, hF.ok.sure1⟩
        have q2 : d.log.length ≤ 450000 := by have := hF.ll; omega
        have q3 : d.snap.length ≤ 3000 := hF.ls
        have hr1 : 1 ≤ d.room := hF.ok.room0
        have hbg0 : wr.heap.size ≠ w1.heap.size := by have := heap_lt hD.blk; omega
        have hD := Lib.hid hD
        have hF := Lib.hid hF
        have hS := Lib.hid (hS.below (below_alloc (Below.refl _ _) (.cells #[.int .i64 x.f0, .int .i64 x.f1, .slice A2 x.f2.length c2] 33)))
        have hB := Lib.hid hB
        have hSw := Lib.hid hSw0
        have hbox : (wr.alloc (.cells #[.int .i64 x.f0, .int .i64 x.f1, .slice A2 x.f2.length c2] 33)).heap[wr.heap.size]? = some (.cells #[.int .i64 x.f0, .int .i64 x.f1, .slice A2 x.f2.length c2] 33 (0, 0)) := heap_alloc_new wr _
        have hbox := Lib.hid hbox
        clear HAr hxi
        go_upto_block 2 with (first
          | (go_at_call 17; refine (log_any _ d _ _ _ (hD.out.alloc _) hr1 (by omega)).mono ?_; rintro e w5 ⟨v5, rfl, ho, hb⟩; have hcv5 := own_string (P := Try.prog) (src := 31) (dst := 9) Try.underlying31 Try.underlying5 Try.underlying9 ho; have hD := Lib.hid ((hD.out.alloc _).below hb); have hS := Lib.hid (hS.out.below hb); have hbox := Lib.hid ((hb.block _ (heap_lt hbox.out)).trans hbox.out); have hB := Lib.hid (bel (below_alloc hB.out _) hb); clear ho hb)
          | (go_at_call 18; refine (sure_any _ d _ _ _ hD.out hr1).mono ?_; rintro e w6 ⟨rfl, rfl⟩)
          | (go_at_call 19; refine (snap_any _ d _ _ _ hD.out hr1 (by omega)).mono ?_; rintro e w7 ⟨v7, rfl, ho, hb⟩; have hcv7 := own_string (P := Try.prog) (src := 31) (dst := 9) Try.underlying31 Try.underlying5 Try.underlying9 ho; have hD := Lib.hid (hD.out.below hb); have hS := Lib.hid (hS.out.below hb); have hbox := Lib.hid ((hb.block _ (heap_lt hbox.out)).trans hbox.out); have hB := Lib.hid (bel hB.out hb); clear ho hb; have x60 := cell_of_heap hbox.out (j := 0) rfl; have x61 := cell_of_heap hbox.out (j := 1) rfl; have x62 := cell_of_heap hbox.out (j := 2) rfl))
        go_cut [10, 57] (fun v u57 wc => ∃ (f : Int) (d' : Dsk) (lv sv : Value), v = .int .i64 f ∧ DiskAt wc w1.heap.size d' lv sv ∧ Sr d' (i + 1) ∧ Act2 d d' x.f0 f x.f2 ∧ Below w.heap.size w wc ∧ wc.heap[wr.heap.size]? = some (.cells #[.int .i64 x.f0, .int .i64 x.f1, .slice A2 x.f2.length c2] 33 (0, 0)))
        case first =>
          have hbg : wr.heap.size ≠ w1.heap.size := hbg0
          by_cases k0 : x.f0 = 0
          · rw [k0] at x60 
            have hbw : Below w7.heap.size w7 (w7.alloc (.cells #[] 5)) := below_alloc (Below.refl _ _) _
            have y62 := pw_cell_below hbw x62
            have hltw : wr.heap.size < w7.heap.size := heap_lt hbox.out
            have hr' : Hid (ReadsInt (w7.alloc (.cells #[] 5)) .u8 A2 x.f2.length x.f2) := Lib.hid ((hS.out.reads).below hbw)
            have ho : Hid ((w7.alloc (.cells #[] 5)).ownsRow w7.heap.size 5 1 (.slice (some ⟨w7.heap.size, 0, none⟩) 0 0) ([] : List Int).length (nums .u8 [])) := Lib.hid (World.ownsRow_lit (base := w7.heap.size) (e := 5) (size := 1) w7 #[] 0 (Nat.le_refl _) (by simp [maxLen]) rfl)
            go_wp2_with (first
              | (at_builtin; go_must (refine print_append_row (w0 := w7) w7.heap.size rfl (.tmp 61) (.tmp 63) 31 5 .u8 1 rfl Try.underlying31 info5 (by omega) _ [] x.f2 A2 x.f2.length c2 rfl rfl ho.out hr'.out hbw (by simp) (by simp; omega) ?_); intro v4 w4 hO4 hB4 hg4 hat4; have hv4 : Hid (Slc0 w4 v4 x.f2) := Lib.hid (Slc.own (xs := x.f2) (n := x.f2.length) (base := w7.heap.size) hO4).s0; have hD := Lib.hid (hD.out.below hB4); have hbox := Lib.hid ((hB4.block _ (heap_lt hbox.out)).trans hbox.out); have hB := Lib.hid (bel hB.out hB4); clear hO4 hg4 hat4)
              | (go_at_call 12; refine (s_app _ _ _ _ v4 x.f2 _ hD.out hv4.out hF.out hi150 hx3).mono ?_; rintro e w8 ⟨f8, d8, lv8, sv8, rfl, hD8, hS8, hA8, hO⟩; have hB8 := Lib.hid (hO.below hg.out hB.out); have hbox8 := Lib.hid ((hO.far _ (heap_lt hbox.out) hbg).trans hbox.out); have hD8 := Lib.hid hD8; clear hO; have hS8 := Lib.hid hS8; have hA8 := Lib.hid hA8)
              | (go_at_call 10; refine (num_any _ _).mono ?_; rintro e w1 ⟨rfl, rfl⟩))
            go_meet
            case rel => exact ⟨f8, d8, lv8, sv8, rfl, hD8.out, hS8.out, by rw [k0]; exact hA8.out, hB8.out, hbox8.out⟩
          · skip
            by_cases k1 : x.f0 = 1
            · rw [k1] at x60 k0
              go_wp2_with (first
                | (go_at_call 13; refine (s_sync _ _ _ _ x.f2 _ hD.out hF.out hi150).mono ?_; rintro e w8 ⟨f8, d8, lv8, sv8, rfl, hD8, hS8, hA8, hO⟩; have hB8 := Lib.hid (hO.below hg.out hB.out); have hbox8 := Lib.hid ((hO.far _ (heap_lt hbox.out) hbg).trans hbox.out); have hD8 := Lib.hid hD8; clear hO; have hS8 := Lib.hid hS8; have hA8 := Lib.hid hA8)
                | (go_at_call 10; refine (num_any _ _).mono ?_; rintro e w1 ⟨rfl, rfl⟩))
              go_meet
              case rel => exact ⟨f8, d8, lv8, sv8, rfl, hD8.out, hS8.out, by rw [k1]; exact hA8.out, hB8.out, hbox8.out⟩
            · skip
              by_cases k2 : x.f0 = 2
              · rw [k2] at x60 k0 k1
                have hbw : Below w7.heap.size w7 (w7.alloc (.cells #[] 5)) := below_alloc (Below.refl _ _) _
                have y62 := pw_cell_below hbw x62
                have hltw : wr.heap.size < w7.heap.size := heap_lt hbox.out
                have hr' : Hid (ReadsInt (w7.alloc (.cells #[] 5)) .u8 A2 x.f2.length x.f2) := Lib.hid ((hS.out.reads).below hbw)
                have ho : Hid ((w7.alloc (.cells #[] 5)).ownsRow w7.heap.size 5 1 (.slice (some ⟨w7.heap.size, 0, none⟩) 0 0) ([] : List Int).length (nums .u8 [])) := Lib.hid (World.ownsRow_lit (base := w7.heap.size) (e := 5) (size := 1) w7 #[] 0 (Nat.le_refl _) (by simp [maxLen]) rfl)
                go_wp2_with (first
                  | (at_builtin; go_must (refine print_append_row (w0 := w7) w7.heap.size rfl (.tmp 75) (.tmp 77) 31 5 .u8 1 rfl Try.underlying31 info5 (by omega) _ [] x.f2 A2 x.f2.length c2 rfl rfl ho.out hr'.out hbw (by simp) (by simp; omega) ?_); intro v4 w4 hO4 hB4 hg4 hat4; have hv4 : Hid (Slc0 w4 v4 x.f2) := Lib.hid (Slc.own (xs := x.f2) (n := x.f2.length) (base := w7.heap.size) hO4).s0; have hD := Lib.hid (hD.out.below hB4); have hbox := Lib.hid ((hB4.block _ (heap_lt hbox.out)).trans hbox.out); have hB := Lib.hid (bel hB.out hB4); clear hO4 hg4 hat4)
                  | (go_at_call 14; refine (s_swap _ _ _ _ v4 x.f2 _ hD.out hv4.out hF.out hi150 hx3).mono ?_; rintro e w8 ⟨f8, d8, lv8, sv8, rfl, hD8, hS8, hA8, hO⟩; have hB8 := Lib.hid (hO.below hg.out hB.out); have hbox8 := Lib.hid ((hO.far _ (heap_lt hbox.out) hbg).trans hbox.out); have hD8 := Lib.hid hD8; clear hO; have hS8 := Lib.hid hS8; have hA8 := Lib.hid hA8)
                  | (go_at_call 10; refine (num_any _ _).mono ?_; rintro e w1 ⟨rfl, rfl⟩))
                go_meet
                case rel => exact ⟨f8, d8, lv8, sv8, rfl, hD8.out, hS8.out, by rw [k2]; exact hA8.out, hB8.out, hbox8.out⟩
              · skip
                by_cases k3 : x.f0 = 3
                · rw [k3] at x60 k0 k1 k2
                  go_wp2_with (first
                    | (go_at_call 15; refine (s_clear _ _ _ _ x.f2 _ hD.out hF.out hi150).mono ?_; rintro e w8 ⟨f8, d8, lv8, sv8, rfl, hD8, hS8, hA8, hO⟩; have hB8 := Lib.hid (hO.below hg.out hB.out); have hbox8 := Lib.hid ((hO.far _ (heap_lt hbox.out) hbg).trans hbox.out); have hD8 := Lib.hid hD8; clear hO; have hS8 := Lib.hid hS8; have hA8 := Lib.hid hA8)
                    | (go_at_call 10; refine (num_any _ _).mono ?_; rintro e w1 ⟨rfl, rfl⟩))
                  go_meet
                  case rel => exact ⟨f8, d8, lv8, sv8, rfl, hD8.out, hS8.out, by rw [k3]; exact hA8.out, hB8.out, hbox8.out⟩
                · skip
                  by_cases k4 : x.f0 = 4
                  · rw [k4] at x60 k0 k1 k2 k3
                    go_wp2_with (first
                      | (go_at_call 11; refine (cut_any _ d _ _ _ _ hD.out hr1).mono ?_; rintro e w8 ⟨rfl, hD8, hO⟩; have hB8 := Lib.hid (hO.below hg.out hB.out); have hbox8 := Lib.hid ((hO.far _ (heap_lt hbox.out) hbg).trans hbox.out); have hD8 := Lib.hid hD8; clear hO))
                    go_meet
                    case rel => exact ⟨0, _, _, _, rfl, hD8.out, hF.out.cut _ hb1.2, by rw [k4]; exact act_cut hF.out _ _ (by decide) (by decide) _, hB8.out, hbox8.out⟩
                  · skip
                    by_cases k5 : x.f0 = 5
                    · rw [k5] at x60 k0 k1 k2 k3 k4
                      go_wp2_with (first
                        | (go_at_call 20; refine (crash_any _ d _ _ _ _ hD.out hF.out.ok hb1.1 hb1.2).mono ?_; rintro e w8 ⟨rfl, ⟨lv8, sv8, hD8⟩, hO⟩; have hB8 := Lib.hid (hO.below hg.out hB.out); have hbox8 := Lib.hid ((hO.far _ (heap_lt hbox.out) hbg).trans hbox.out); have hD8 := Lib.hid hD8; clear hO))
                      go_meet
                      case rel => exact ⟨0, _, _, _, rfl, hD8.out, hF.out.crash _, by rw [k5]; exact act_crash hF.out _ _, hB8.out, hbox8.out⟩
                    · skip
                      go_wp2
                      go_meet
                      case rel => exact ⟨0, d, _, _, rfl, hD.out, hF.out.next, act_none hF.out _ k5 k3 _, hB.out, hbox.out⟩
        case rest =>
          obtain ⟨f, d', lv', sv', rfl, hD', hS2, hA', hB', hbox'⟩ := hcut
          have hr1' : 1 ≤ d'.room := hS2.ok.room0
          have q2' : d'.log.length ≤ 450000 := by have := hS2.ll; omega
          have q3' : d'.snap.length ≤ 3000 := hS2.ls
          have z60 := cell_of_heap hbox' (j := 0) rfl
          have hS' := Lib.hid (hSw.out.below hB')
          have hD' := Lib.hid hD'
          have hS2 := Lib.hid hS2
          have hA' := Lib.hid hA'
          have hB' := Lib.hid hB'
          have hbox' := Lib.hid hbox'
          clear hcv5 hcv7
          by_cases hcl : x.f0 = 3 ∧ f = 0
          · obtain ⟨k3, hf0⟩ := hcl
            subst hf0
            have hl0 : d'.log = [] := hA'.out.clear k3 rfl
            rw [k3] at z60
            go_wp2_with (first
              | (go_at_call 17; refine (log_any _ d' _ _ _ hD'.out hr1' (by omega)).mono ?_; rintro e w10 ⟨v10, rfl, ho, hb⟩; have hcv10 := own_string (P := Try.prog) (src := 31) (dst := 9) Try.underlying31 Try.underlying5 Try.underlying9 ho; rw [hl0, show Go.strOfNums [] = ({ data := #[] } : ByteArray) from rfl] at hcv10; have hD' := Lib.hid (hD'.out.below hb); have hS' := Lib.hid (hS'.out.below hb); have hbox' := Lib.hid ((hb.block _ (heap_lt hbox'.out)).trans hbox'.out); have hB' := Lib.hid (bel hB'.out hb); have z60 := pw_cell_below hb z60; clear ho hb)
              | (go_at_call 18; refine (sure_any _ d' _ _ _ hD'.out hr1').mono ?_; rintro e w11 ⟨rfl, rfl⟩))
            have hbox' := hbox'.out
            by_cases hst : ((Go.strOfNums d'.snap).toList == (Go.strOfNums d.snap).toList) = true
            · refine drawn_phi (w := w10) ([Fv (dp w1.heap.size), (fun v W => Slc W v d'.snap), Fv (.string (Go.strOfNums d'.snap)), Fv (.string (Go.strOfNums d.snap)), Fv (.bool false), Fv (.bool false), Fv (undef), Fv (undef), Fv (undef), Fv (undef), Fv (undef), Fv (undef), Fv (undef), Fv (undef), Fv (undef), Fv (undef), Fv (undef), Fv (undef), Fv (undef), Fv (undef), Fv (undef), Fv (undef), Fv (.bool false)] : List (Value → World → Prop)) (by kernel_rfl) (by kernel_rfl) (by kernel_rfl) ?_ ?_ ?_
              · intro i_ F_ hi
                have hl := (List.getElem?_eq_some_iff.1 hi).1
                rcases (show i_ = 0 ∨ i_ = 1 ∨ i_ = 2 ∨ i_ = 3 ∨ i_ = 4 ∨ i_ = 5 ∨ i_ = 6 ∨ i_ = 7 ∨ i_ = 8 ∨ i_ = 9 ∨ i_ = 10 ∨ i_ = 11 ∨ i_ = 12 ∨ i_ = 13 ∨ i_ = 14 ∨ i_ = 15 ∨ i_ = 16 ∨ i_ = 17 ∨ i_ = 18 ∨ i_ = 19 ∨ i_ = 20 ∨ i_ = 21 ∨ i_ = 22 by simp at hl; omega) with rfl | rfl | rfl | rfl | rfl | rfl | rfl | rfl | rfl | rfl | rfl | rfl | rfl | rfl | rfl | rfl | rfl | rfl | rfl | rfl | rfl | rfl | rfl
                · obtain rfl := Option.some.inj (show some (Fv (dp w1.heap.size)) = some F_ from hi)
                  exact mono_v _
                · obtain rfl := Option.some.inj (show some ((fun v W => Slc W v d'.snap)) = some F_ from hi)
                  exact fun v W W1 h hb => Slc.below h hb
                · obtain rfl := Option.some.inj (show some (Fv (.string (Go.strOfNums d'.snap))) = some F_ from hi)
                  exact mono_v _
                · obtain rfl := Option.some.inj (show some (Fv (.string (Go.strOfNums d.snap))) = some F_ from hi)
                  exact mono_v _
                · obtain rfl := Option.some.inj (show some (Fv (.bool false)) = some F_ from hi)
                  exact mono_v _
                · obtain rfl := Option.some.inj (show some (Fv (.bool false)) = some F_ from hi)
                  exact mono_v _
                · obtain rfl := Option.some.inj (show some (Fv (undef)) = some F_ from hi)
                  exact mono_v _
                · obtain rfl := Option.some.inj (show some (Fv (undef)) = some F_ from hi)
                  exact mono_v _
                · obtain rfl := Option.some.inj (show some (Fv (undef)) = some F_ from hi)
                  exact mono_v _
                · obtain rfl := Option.some.inj (show some (Fv (undef)) = some F_ from hi)
                  exact mono_v _
                · obtain rfl := Option.some.inj (show some (Fv (undef)) = some F_ from hi)
                  exact mono_v _
                · obtain rfl := Option.some.inj (show some (Fv (undef)) = some F_ from hi)
                  exact mono_v _
                · obtain rfl := Option.some.inj (show some (Fv (undef)) = some F_ from hi)
                  exact mono_v _
                · obtain rfl := Option.some.inj (show some (Fv (undef)) = some F_ from hi)
                  exact mono_v _
                · obtain rfl := Option.some.inj (show some (Fv (undef)) = some F_ from hi)
                  exact mono_v _
                · obtain rfl := Option.some.inj (show some (Fv (undef)) = some F_ from hi)
                  exact mono_v _
                · obtain rfl := Option.some.inj (show some (Fv (undef)) = some F_ from hi)
                  exact mono_v _
                · obtain rfl := Option.some.inj (show some (Fv (undef)) = some F_ from hi)
                  exact mono_v _
                · obtain rfl := Option.some.inj (show some (Fv (undef)) = some F_ from hi)
                  exact mono_v _
                · obtain rfl := Option.some.inj (show some (Fv (undef)) = some F_ from hi)
                  exact mono_v _
                · obtain rfl := Option.some.inj (show some (Fv (undef)) = some F_ from hi)
                  exact mono_v _
                · obtain rfl := Option.some.inj (show some (Fv (undef)) = some F_ from hi)
                  exact mono_v _
                · obtain rfl := Option.some.inj (show some (Fv (.bool false)) = some F_ from hi)
                  exact mono_v _
              · intro i_ F_ hi a_ W hs ho hB
                have hl := (List.getElem?_eq_some_iff.1 hi).1
                rcases (show i_ = 0 ∨ i_ = 1 ∨ i_ = 2 ∨ i_ = 3 ∨ i_ = 4 ∨ i_ = 5 ∨ i_ = 6 ∨ i_ = 7 ∨ i_ = 8 ∨ i_ = 9 ∨ i_ = 10 ∨ i_ = 11 ∨ i_ = 12 ∨ i_ = 13 ∨ i_ = 14 ∨ i_ = 15 ∨ i_ = 16 ∨ i_ = 17 ∨ i_ = 18 ∨ i_ = 19 ∨ i_ = 20 ∨ i_ = 21 ∨ i_ = 22 by simp at hl; omega) with rfl | rfl | rfl | rfl | rfl | rfl | rfl | rfl | rfl | rfl | rfl | rfl | rfl | rfl | rfl | rfl | rfl | rfl | rfl | rfl | rfl | rfl | rfl
                · obtain rfl := Option.some.inj (show some (Fv (dp w1.heap.size)) = some F_ from hi)
                  clear hi hl
                  have e3 : a_.tmps[3]? = some (dp w1.heap.size) := (ho 3 (by kernel_rfl)).trans rfl
                  refine ⟨_, rfl, fun KR hKR => ?_⟩
                  rw [if_pos (show Region.wanted _ _ = true from rfl)]
                  clear hs ho
                  go_simp
                  exact hKR _ _ rfl (Below.refl _ _)
                · obtain rfl := Option.some.inj (show some ((fun v W => Slc W v d'.snap)) = some F_ from hi)
                  clear hi hl
                  obtain ⟨x154, e154, rfl⟩ := hs 0 (by kernel_rfl) (Fv (dp w1.heap.size)) rfl 154 rfl
                  refine ⟨_, rfl, fun KR hKR => ?_⟩
                  rw [if_pos (show Region.wanted _ _ = true from rfl)]
                  clear hs ho
                  (go_simp; (go_at_call 19; refine (snap_any _ d' _ _ _ (hD'.out.below hB) hr1' (by omega)).mono ?_; rintro e w9 ⟨v9, rfl, ho, hb⟩); exact hKR _ _ (Slc.own ho) hb)
                · obtain rfl := Option.some.inj (show some (Fv (.string (Go.strOfNums d'.snap))) = some F_ from hi)
                  clear hi hl
                  obtain ⟨y155, e155, hp155⟩ := hs 1 (by kernel_rfl) (fun v W => Slc W v d'.snap) rfl 155 rfl
                  refine ⟨_, rfl, fun KR hKR => ?_⟩
                  rw [if_pos (show Region.wanted _ _ = true from rfl)]
                  clear hs ho
                  (obtain ⟨A9, a9, rfl, _, _, _, hr9, _⟩ := hp155; have E := Go.Proofs.YthodclhemleeaaaW.PrintWords.string_of_reads (P := Try.prog) (src := 31) (dst := 9) (c := a9) Try.underlying31 Try.underlying5 Try.underlying9 hr9; go_simp; exact hKR _ _ rfl (Below.refl _ _))
                · obtain rfl := Option.some.inj (show some (Fv (.string (Go.strOfNums d.snap))) = some F_ from hi)
                  clear hi hl
                  have e9 : a_.tmps[9]? = some (.string (Go.strOfNums d.snap)) := (ho 9 (by kernel_rfl)).trans rfl
                  refine ⟨_, rfl, fun KR hKR => ?_⟩
                  rw [if_pos (show Region.wanted _ _ = true from rfl)]
                  clear hs ho
                  go_simp
                  exact hKR _ _ rfl (Below.refl _ _)
                · obtain rfl := Option.some.inj (show some (Fv (.bool false)) = some F_ from hi)
                  clear hi hl
                  obtain ⟨x156, e156, rfl⟩ := hs 2 (by kernel_rfl) (Fv (.string (Go.strOfNums d'.snap))) rfl 156 rfl
                  obtain ⟨x157, e157, rfl⟩ := hs 3 (by kernel_rfl) (Fv (.string (Go.strOfNums d.snap))) rfl 157 rfl
                  refine ⟨_, rfl, fun KR hKR => ?_⟩
                  rw [if_pos (show Region.wanted _ _ = true from rfl)]
                  clear hs ho
                  go_simp
                  exact hKR _ _ rfl (Below.refl _ _)
                · obtain rfl := Option.some.inj (show some (Fv (.bool false)) = some F_ from hi)
                  clear hi hl
                  obtain ⟨x158, e158, rfl⟩ := hs 4 (by kernel_rfl) (Fv (.bool false)) rfl 158 rfl
                  refine ⟨_, rfl, fun KR hKR => ?_⟩
                  rw [if_pos (show Region.wanted _ _ = true from rfl)]
                  clear hs ho
                  go_simp
                  exact hKR _ _ rfl (Below.refl _ _)
                · obtain rfl := Option.some.inj (show some (Fv (undef)) = some F_ from hi)
                  clear hi hl
                  obtain ⟨x159, e159, rfl⟩ := hs 5 (by kernel_rfl) (Fv (.bool false)) rfl 159 rfl
                  refine ⟨_, rfl, fun KR hKR => ?_⟩
                  rw [if_neg (unwanted_of (j := 5) (d := 159) rfl rfl e159 (by first | (simp; done) | (simp [undef]; done)))]
                  exact hKR _ _ rfl (Below.refl _ _)
                · obtain rfl := Option.some.inj (show some (Fv (undef)) = some F_ from hi)
                  clear hi hl
                  obtain ⟨x159, e159, rfl⟩ := hs 5 (by kernel_rfl) (Fv (.bool false)) rfl 159 rfl
                  refine ⟨_, rfl, fun KR hKR => ?_⟩
                  rw [if_neg (unwanted_of (j := 5) (d := 159) rfl rfl e159 (by first | (simp; done) | (simp [undef]; done)))]
                  exact hKR _ _ rfl (Below.refl _ _)
                · obtain rfl := Option.some.inj (show some (Fv (undef)) = some F_ from hi)
                  clear hi hl
                  obtain ⟨x159, e159, rfl⟩ := hs 5 (by kernel_rfl) (Fv (.bool false)) rfl 159 rfl
                  refine ⟨_, rfl, fun KR hKR => ?_⟩
                  rw [if_neg (unwanted_of (j := 5) (d := 159) rfl rfl e159 (by first | (simp; done) | (simp [undef]; done)))]
                  exact hKR _ _ rfl (Below.refl _ _)
                · obtain rfl := Option.some.inj (show some (Fv (undef)) = some F_ from hi)
                  clear hi hl
                  obtain ⟨x159, e159, rfl⟩ := hs 5 (by kernel_rfl) (Fv (.bool false)) rfl 159 rfl
                  refine ⟨_, rfl, fun KR hKR => ?_⟩
                  rw [if_neg (unwanted_of (j := 5) (d := 159) rfl rfl e159 (by first | (simp; done) | (simp [undef]; done)))]
                  exact hKR _ _ rfl (Below.refl _ _)
                · obtain rfl := Option.some.inj (show some (Fv (undef)) = some F_ from hi)
                  clear hi hl
                  obtain ⟨x163, e163, rfl⟩ := hs 9 (by kernel_rfl) (Fv (undef)) rfl 163 rfl
                  refine ⟨_, rfl, fun KR hKR => ?_⟩
                  rw [if_neg (unwanted_of (j := 9) (d := 163) rfl rfl e163 (by first | (simp; done) | (simp [undef]; done)))]
                  exact hKR _ _ rfl (Below.refl _ _)
                · obtain rfl := Option.some.inj (show some (Fv (undef)) = some F_ from hi)
                  clear hi hl
                  obtain ⟨x163, e163, rfl⟩ := hs 9 (by kernel_rfl) (Fv (undef)) rfl 163 rfl
                  refine ⟨_, rfl, fun KR hKR => ?_⟩
                  rw [if_neg (unwanted_of (j := 9) (d := 163) rfl rfl e163 (by first | (simp; done) | (simp [undef]; done)))]
                  exact hKR _ _ rfl (Below.refl _ _)
                · obtain rfl := Option.some.inj (show some (Fv (undef)) = some F_ from hi)
                  clear hi hl
                  obtain ⟨x159, e159, rfl⟩ := hs 5 (by kernel_rfl) (Fv (.bool false)) rfl 159 rfl
                  refine ⟨_, rfl, fun KR hKR => ?_⟩
                  rw [if_neg (unwanted_of (j := 5) (d := 159) rfl rfl e159 (by first | (simp; done) | (simp [undef]; done)))]
                  exact hKR _ _ rfl (Below.refl _ _)
                · obtain rfl := Option.some.inj (show some (Fv (undef)) = some F_ from hi)
                  clear hi hl
                  obtain ⟨x159, e159, rfl⟩ := hs 5 (by kernel_rfl) (Fv (.bool false)) rfl 159 rfl
                  refine ⟨_, rfl, fun KR hKR => ?_⟩
                  rw [if_neg (unwanted_of (j := 5) (d := 159) rfl rfl e159 (by first | (simp; done) | (simp [undef]; done)))]
                  exact hKR _ _ rfl (Below.refl _ _)
                · obtain rfl := Option.some.inj (show some (Fv (undef)) = some F_ from hi)
                  clear hi hl
                  obtain ⟨x167, e167, rfl⟩ := hs 13 (by kernel_rfl) (Fv (undef)) rfl 167 rfl
                  refine ⟨_, rfl, fun KR hKR => ?_⟩
                  rw [if_neg (unwanted_of (j := 13) (d := 167) rfl rfl e167 (by first | (simp; done) | (simp [undef]; done)))]
                  exact hKR _ _ rfl (Below.refl _ _)
                · obtain rfl := Option.some.inj (show some (Fv (undef)) = some F_ from hi)
                  clear hi hl
                  obtain ⟨x167, e167, rfl⟩ := hs 13 (by kernel_rfl) (Fv (undef)) rfl 167 rfl
                  refine ⟨_, rfl, fun KR hKR => ?_⟩
                  rw [if_neg (unwanted_of (j := 13) (d := 167) rfl rfl e167 (by first | (simp; done) | (simp [undef]; done)))]
                  exact hKR _ _ rfl (Below.refl _ _)
                · obtain rfl := Option.some.inj (show some (Fv (undef)) = some F_ from hi)
                  clear hi hl
                  obtain ⟨x167, e167, rfl⟩ := hs 13 (by kernel_rfl) (Fv (undef)) rfl 167 rfl
                  refine ⟨_, rfl, fun KR hKR => ?_⟩
                  rw [if_neg (unwanted_of (j := 13) (d := 167) rfl rfl e167 (by first | (simp; done) | (simp [undef]; done)))]
                  exact hKR _ _ rfl (Below.refl _ _)
                · obtain rfl := Option.some.inj (show some (Fv (undef)) = some F_ from hi)
                  clear hi hl
                  obtain ⟨x167, e167, rfl⟩ := hs 13 (by kernel_rfl) (Fv (undef)) rfl 167 rfl
                  refine ⟨_, rfl, fun KR hKR => ?_⟩
                  rw [if_neg (unwanted_of (j := 13) (d := 167) rfl rfl e167 (by first | (simp; done) | (simp [undef]; done)))]
                  exact hKR _ _ rfl (Below.refl _ _)
                · obtain rfl := Option.some.inj (show some (Fv (undef)) = some F_ from hi)
                  clear hi hl
                  obtain ⟨x167, e167, rfl⟩ := hs 13 (by kernel_rfl) (Fv (undef)) rfl 167 rfl
                  refine ⟨_, rfl, fun KR hKR => ?_⟩
                  rw [if_neg (unwanted_of (j := 13) (d := 167) rfl rfl e167 (by first | (simp; done) | (simp [undef]; done)))]
                  exact hKR _ _ rfl (Below.refl _ _)
                · obtain rfl := Option.some.inj (show some (Fv (undef)) = some F_ from hi)
                  clear hi hl
                  obtain ⟨x167, e167, rfl⟩ := hs 13 (by kernel_rfl) (Fv (undef)) rfl 167 rfl
                  refine ⟨_, rfl, fun KR hKR => ?_⟩
                  rw [if_neg (unwanted_of (j := 13) (d := 167) rfl rfl e167 (by first | (simp; done) | (simp [undef]; done)))]
                  exact hKR _ _ rfl (Below.refl _ _)
                · obtain rfl := Option.some.inj (show some (Fv (undef)) = some F_ from hi)
                  clear hi hl
                  obtain ⟨x167, e167, rfl⟩ := hs 13 (by kernel_rfl) (Fv (undef)) rfl 167 rfl
                  refine ⟨_, rfl, fun KR hKR => ?_⟩
                  rw [if_neg (unwanted_of (j := 13) (d := 167) rfl rfl e167 (by first | (simp; done) | (simp [undef]; done)))]
                  exact hKR _ _ rfl (Below.refl _ _)
                · obtain rfl := Option.some.inj (show some (Fv (undef)) = some F_ from hi)
                  clear hi hl
                  obtain ⟨x159, e159, rfl⟩ := hs 5 (by kernel_rfl) (Fv (.bool false)) rfl 159 rfl
                  refine ⟨_, rfl, fun KR hKR => ?_⟩
                  rw [if_neg (unwanted_of (j := 5) (d := 159) rfl rfl e159 (by first | (simp; done) | (simp [undef]; done)))]
                  exact hKR _ _ rfl (Below.refl _ _)
                · obtain rfl := Option.some.inj (show some (Fv (.bool false)) = some F_ from hi)
                  clear hi hl
                  obtain ⟨x159, e159, rfl⟩ := hs 5 (by kernel_rfl) (Fv (.bool false)) rfl 159 rfl
                  obtain ⟨x175, e175, rfl⟩ := hs 21 (by kernel_rfl) (Fv (undef)) rfl 175 rfl
                  refine ⟨_, rfl, fun KR hKR => ?_⟩
                  rw [if_pos (show Region.wanted _ _ = true from rfl)]
                  clear hs ho
                  go_simp
                  exact hKR _ _ rfl (Below.refl _ _)
              · intro vals_ W hv hB
                have v0 : vals_ 0 = dp w1.heap.size := hv 0 _ rfl
                have hp155 := hv 1 _ rfl
                obtain ⟨y155, v1⟩ : ∃ y_, vals_ 1 = y_ := ⟨_, rfl⟩
                rw [v1] at hp155
                have v2 : vals_ 2 = .string (Go.strOfNums d'.snap) := hv 2 _ rfl
                have v3 : vals_ 3 = .string (Go.strOfNums d.snap) := hv 3 _ rfl
                have v4 : vals_ 4 = .bool false := hv 4 _ rfl
                have v5 : vals_ 5 = .bool false := hv 5 _ rfl
                have v6 : vals_ 6 = undef := hv 6 _ rfl
                have v7 : vals_ 7 = undef := hv 7 _ rfl
                have v8 : vals_ 8 = undef := hv 8 _ rfl
                have v9 : vals_ 9 = undef := hv 9 _ rfl
                have v10 : vals_ 10 = undef := hv 10 _ rfl
                have v11 : vals_ 11 = undef := hv 11 _ rfl
                have v12 : vals_ 12 = undef := hv 12 _ rfl
                have v13 : vals_ 13 = undef := hv 13 _ rfl
                have v14 : vals_ 14 = undef := hv 14 _ rfl
                have v15 : vals_ 15 = undef := hv 15 _ rfl
                have v16 : vals_ 16 = undef := hv 16 _ rfl
                have v17 : vals_ 17 = undef := hv 17 _ rfl
                have v18 : vals_ 18 = undef := hv 18 _ rfl
                have v19 : vals_ 19 = undef := hv 19 _ rfl
                have v20 : vals_ 20 = undef := hv 20 _ rfl
                have v21 : vals_ 21 = undef := hv 21 _ rfl
                have v22 : vals_ 22 = .bool false := hv 22 _ rfl
                simp only [List.length_cons, List.length_nil, Nat.zero_add, Nat.reduceAdd, List.size_toArray, slots, if_true, dstOf, List.getElem?_toArray, List.getElem?_cons_zero, List.getElem?_cons_succ, Option.bind_some, Act.put, List.setIfInBounds_toArray, List.set_cons_zero, List.set_cons_succ, v0, v1, v2, v3, v4, v5, v6, v7, v8, v9, v10, v11, v12, v13, v14, v15, v16, v17, v18, v19, v20, v21, v22]
                clear hv v0 v1 v2 v3 v4 v5 v6 v7 v8 v9 v10 v11 v12 v13 v14 v15 v16 v17 v18 v19 v20 v21 v22
                change wpAny _ _ _ _ 0 _ _ _
                refine wpAny_done (by kernel_rfl) ?_ _
                go_wp2
                refine ⟨⟨i + 1, d', _, _, by omega, by go_num, (hD'.out.below hB), hS2.out, bel hB'.out hB⟩, by simp [intOf]; omega⟩
            · rcases hA'.out.snap with h | ⟨k2, hf0, hsn⟩
              · exact absurd (by rw [h]; exact beq_self_eq_true _) hst
              · exact absurd (k2.symm.trans k3) (by decide)
          · have hcl' := hA'.out.stay hcl
            obtain ⟨t1, t2, t3⟩ := hcl'
            go_wp2_with (first
              | (go_at_call 17; refine (log_any _ d' _ _ _ hD'.out hr1' (by omega)).mono ?_; rintro e w10 ⟨v10, rfl, ho, hb⟩; have hcv10 := own_string (P := Try.prog) (src := 31) (dst := 9) Try.underlying31 Try.underlying5 Try.underlying9 ho; have hD' := Lib.hid (hD'.out.below hb); have hS' := Lib.hid (hS'.out.below hb); have hbox' := Lib.hid ((hb.block _ (heap_lt hbox'.out)).trans hbox'.out); have hB' := Lib.hid (bel hB'.out hb); have z60 := pw_cell_below hb z60; clear ho hb)
              | (go_at_call 18; refine (sure_any _ d' _ _ _ hD'.out hr1').mono ?_; rintro e w11 ⟨rfl, rfl⟩))
            all_goals
              refine drawn_phi (w := w10) ([Fv (.string (Go.strOfNums d'.log)), Fv (.int .i64 d'.log.length), Fv (.int .i64 d.sure), Fv (.bool false), Fv (.bool false), Fv (.string (Go.strOfNums d'.log)), Fv (.int .i64 d.sure), Fv (.string (Go.strOfNums (List.take d.sure.toNat d.log))), Fv (.string (Go.strOfNums d.log)), Fv (.int .i64 d.sure), Fv (.string (Go.strOfNums (List.take d.sure.toNat d.log))), Fv (.bool false), Fv (.bool false), Fv (.bool false), Fv (dp w1.heap.size), Fv (.int .i64 d'.sure), Fv (.int .i64 d.sure), Fv (.bool false), Fv (.bool false)] : List (Value → World → Prop)) (by kernel_rfl) (by kernel_rfl) (by kernel_rfl) ?_ ?_ ?_
              · intro i_ F_ hi
                have hl := (List.getElem?_eq_some_iff.1 hi).1
                rcases (show i_ = 0 ∨ i_ = 1 ∨ i_ = 2 ∨ i_ = 3 ∨ i_ = 4 ∨ i_ = 5 ∨ i_ = 6 ∨ i_ = 7 ∨ i_ = 8 ∨ i_ = 9 ∨ i_ = 10 ∨ i_ = 11 ∨ i_ = 12 ∨ i_ = 13 ∨ i_ = 14 ∨ i_ = 15 ∨ i_ = 16 ∨ i_ = 17 ∨ i_ = 18 by simp at hl; omega) with rfl | rfl | rfl | rfl | rfl | rfl | rfl | rfl | rfl | rfl | rfl | rfl | rfl | rfl | rfl | rfl | rfl | rfl | rfl
                · obtain rfl := Option.some.inj (show some (Fv (.string (Go.strOfNums d'.log))) = some F_ from hi)
                  exact mono_v _
                · obtain rfl := Option.some.inj (show some (Fv (.int .i64 d'.log.length)) = some F_ from hi)
                  exact mono_v _
                · obtain rfl := Option.some.inj (show some (Fv (.int .i64 d.sure)) = some F_ from hi)
                  exact mono_v _
                · obtain rfl := Option.some.inj (show some (Fv (.bool false)) = some F_ from hi)
                  exact mono_v _
                · obtain rfl := Option.some.inj (show some (Fv (.bool false)) = some F_ from hi)
                  exact mono_v _
                · obtain rfl := Option.some.inj (show some (Fv (.string (Go.strOfNums d'.log))) = some F_ from hi)
                  exact mono_v _
                · obtain rfl := Option.some.inj (show some (Fv (.int .i64 d.sure)) = some F_ from hi)
                  exact mono_v _
                · obtain rfl := Option.some.inj (show some (Fv (.string (Go.strOfNums (List.take d.sure.toNat d.log)))) = some F_ from hi)
                  exact mono_v _
                · obtain rfl := Option.some.inj (show some (Fv (.string (Go.strOfNums d.log))) = some F_ from hi)
                  exact mono_v _
                · obtain rfl := Option.some.inj (show some (Fv (.int .i64 d.sure)) = some F_ from hi)
                  exact mono_v _
                · obtain rfl := Option.some.inj (show some (Fv (.string (Go.strOfNums (List.take d.sure.toNat d.log)))) = some F_ from hi)
                  exact mono_v _
                · obtain rfl := Option.some.inj (show some (Fv (.bool false)) = some F_ from hi)
                  exact mono_v _
                · obtain rfl := Option.some.inj (show some (Fv (.bool false)) = some F_ from hi)
                  exact mono_v _
                · obtain rfl := Option.some.inj (show some (Fv (.bool false)) = some F_ from hi)
                  exact mono_v _
                · obtain rfl := Option.some.inj (show some (Fv (dp w1.heap.size)) = some F_ from hi)
                  exact mono_v _
                · obtain rfl := Option.some.inj (show some (Fv (.int .i64 d'.sure)) = some F_ from hi)
                  exact mono_v _
                · obtain rfl := Option.some.inj (show some (Fv (.int .i64 d.sure)) = some F_ from hi)
                  exact mono_v _
                · obtain rfl := Option.some.inj (show some (Fv (.bool false)) = some F_ from hi)
                  exact mono_v _
                · obtain rfl := Option.some.inj (show some (Fv (.bool false)) = some F_ from hi)
                  exact mono_v _
              · intro i_ F_ hi a_ W hs ho hB
                have hl := (List.getElem?_eq_some_iff.1 hi).1
                rcases (show i_ = 0 ∨ i_ = 1 ∨ i_ = 2 ∨ i_ = 3 ∨ i_ = 4 ∨ i_ = 5 ∨ i_ = 6 ∨ i_ = 7 ∨ i_ = 8 ∨ i_ = 9 ∨ i_ = 10 ∨ i_ = 11 ∨ i_ = 12 ∨ i_ = 13 ∨ i_ = 14 ∨ i_ = 15 ∨ i_ = 16 ∨ i_ = 17 ∨ i_ = 18 by simp at hl; omega) with rfl | rfl | rfl | rfl | rfl | rfl | rfl | rfl | rfl | rfl | rfl | rfl | rfl | rfl | rfl | rfl | rfl | rfl | rfl
                · obtain rfl := Option.some.inj (show some (Fv (.string (Go.strOfNums d'.log))) = some F_ from hi)
                  clear hi hl
                  have e11 : a_.tmps[11]? = some (.string (Go.strOfNums d'.log)) := (ho 11 (by kernel_rfl)).trans rfl
                  refine ⟨_, rfl, fun KR hKR => ?_⟩
                  rw [if_pos (show Region.wanted _ _ = true from rfl)]
                  clear hs ho
                  go_simp
                  exact hKR _ _ rfl (Below.refl _ _)
                · obtain rfl := Option.some.inj (show some (Fv (.int .i64 d'.log.length)) = some F_ from hi)
                  clear hi hl
                  obtain ⟨x110, e110, rfl⟩ := hs 0 (by kernel_rfl) (Fv (.string (Go.strOfNums d'.log))) rfl 110 rfl
                  refine ⟨_, rfl, fun KR hKR => ?_⟩
                  rw [if_pos (show Region.wanted _ _ = true from rfl)]
                  clear hs ho
                  go_simp
                  exact hKR _ _ rfl (Below.refl _ _)
                · obtain rfl := Option.some.inj (show some (Fv (.int .i64 d.sure)) = some F_ from hi)
                  clear hi hl
                  have e8 : a_.tmps[8]? = some (.int .i64 d.sure) := (ho 8 (by kernel_rfl)).trans rfl
                  refine ⟨_, rfl, fun KR hKR => ?_⟩
                  rw [if_pos (show Region.wanted _ _ = true from rfl)]
                  clear hs ho
                  go_simp
                  exact hKR _ _ rfl (Below.refl _ _)
                · obtain rfl := Option.some.inj (show some (Fv (.bool false)) = some F_ from hi)
                  clear hi hl
                  obtain ⟨x111, e111, rfl⟩ := hs 1 (by kernel_rfl) (Fv (.int .i64 d'.log.length)) rfl 111 rfl
                  obtain ⟨x112, e112, rfl⟩ := hs 2 (by kernel_rfl) (Fv (.int .i64 d.sure)) rfl 112 rfl
                  refine ⟨_, rfl, fun KR hKR => ?_⟩
                  rw [if_pos (show Region.wanted _ _ = true from rfl)]
                  clear hs ho
                  (go_simp; rw [show decide ((d'.log.length : Int) < d.sure) = false from decide_eq_false (by omega)]; exact hKR _ _ rfl (Below.refl _ _))
                · obtain rfl := Option.some.inj (show some (Fv (.bool false)) = some F_ from hi)
                  clear hi hl
                  obtain ⟨x113, e113, rfl⟩ := hs 3 (by kernel_rfl) (Fv (.bool false)) rfl 113 rfl
                  refine ⟨_, rfl, fun KR hKR => ?_⟩
                  rw [if_pos (show Region.wanted _ _ = true from rfl)]
                  clear hs ho
                  go_simp
                  exact hKR _ _ rfl (Below.refl _ _)
                · obtain rfl := Option.some.inj (show some (Fv (.string (Go.strOfNums d'.log))) = some F_ from hi)
                  clear hi hl
                  have e11 : a_.tmps[11]? = some (.string (Go.strOfNums d'.log)) := (ho 11 (by kernel_rfl)).trans rfl
                  obtain ⟨x114, e114, rfl⟩ := hs 4 (by kernel_rfl) (Fv (.bool false)) rfl 114 rfl
                  refine ⟨_, rfl, fun KR hKR => ?_⟩
                  rw [if_pos (wanted_of (j := 4) (d := 114) rfl rfl e114)]
                  clear e114
                  clear hs ho
                  go_simp
                  exact hKR _ _ rfl (Below.refl _ _)
                · obtain rfl := Option.some.inj (show some (Fv (.int .i64 d.sure)) = some F_ from hi)
                  clear hi hl
                  have e8 : a_.tmps[8]? = some (.int .i64 d.sure) := (ho 8 (by kernel_rfl)).trans rfl
                  obtain ⟨x114, e114, rfl⟩ := hs 4 (by kernel_rfl) (Fv (.bool false)) rfl 114 rfl
                  refine ⟨_, rfl, fun KR hKR => ?_⟩
                  rw [if_pos (wanted_of (j := 4) (d := 114) rfl rfl e114)]
                  clear e114
                  clear hs ho
                  go_simp
                  exact hKR _ _ rfl (Below.refl _ _)
                · obtain rfl := Option.some.inj (show some (Fv (.string (Go.strOfNums (List.take d.sure.toNat d.log)))) = some F_ from hi)
                  clear hi hl
                  obtain ⟨x115, e115, rfl⟩ := hs 5 (by kernel_rfl) (Fv (.string (Go.strOfNums d'.log))) rfl 115 rfl
                  obtain ⟨x116, e116, rfl⟩ := hs 6 (by kernel_rfl) (Fv (.int .i64 d.sure)) rfl 116 rfl
                  obtain ⟨x114, e114, rfl⟩ := hs 4 (by kernel_rfl) (Fv (.bool false)) rfl 114 rfl
                  refine ⟨_, rfl, fun KR hKR => ?_⟩
                  rw [if_pos (wanted_of (j := 4) (d := 114) rfl rfl e114)]
                  clear e114
                  clear hs ho
                  (go_simp; rw [str_take, t2]; exact hKR _ _ rfl (Below.refl _ _))
                · obtain rfl := Option.some.inj (show some (Fv (.string (Go.strOfNums d.log))) = some F_ from hi)
                  clear hi hl
                  have e7 : a_.tmps[7]? = some (.string (Go.strOfNums d.log)) := (ho 7 (by kernel_rfl)).trans rfl
                  obtain ⟨x114, e114, rfl⟩ := hs 4 (by kernel_rfl) (Fv (.bool false)) rfl 114 rfl
                  refine ⟨_, rfl, fun KR hKR => ?_⟩
                  rw [if_pos (wanted_of (j := 4) (d := 114) rfl rfl e114)]
                  clear e114
                  clear hs ho
                  go_simp
                  exact hKR _ _ rfl (Below.refl _ _)
                · obtain rfl := Option.some.inj (show some (Fv (.int .i64 d.sure)) = some F_ from hi)
                  clear hi hl
                  have e8 : a_.tmps[8]? = some (.int .i64 d.sure) := (ho 8 (by kernel_rfl)).trans rfl
                  obtain ⟨x114, e114, rfl⟩ := hs 4 (by kernel_rfl) (Fv (.bool false)) rfl 114 rfl
                  refine ⟨_, rfl, fun KR hKR => ?_⟩
                  rw [if_pos (wanted_of (j := 4) (d := 114) rfl rfl e114)]
                  clear e114
                  clear hs ho
                  go_simp
                  exact hKR _ _ rfl (Below.refl _ _)
                · obtain rfl := Option.some.inj (show some (Fv (.string (Go.strOfNums (List.take d.sure.toNat d.log)))) = some F_ from hi)
                  clear hi hl
                  obtain ⟨x118, e118, rfl⟩ := hs 8 (by kernel_rfl) (Fv (.string (Go.strOfNums d.log))) rfl 118 rfl
                  obtain ⟨x119, e119, rfl⟩ := hs 9 (by kernel_rfl) (Fv (.int .i64 d.sure)) rfl 119 rfl
                  obtain ⟨x114, e114, rfl⟩ := hs 4 (by kernel_rfl) (Fv (.bool false)) rfl 114 rfl
                  refine ⟨_, rfl, fun KR hKR => ?_⟩
                  rw [if_pos (wanted_of (j := 4) (d := 114) rfl rfl e114)]
                  clear e114
                  clear hs ho
                  (go_simp; rw [str_take]; exact hKR _ _ rfl (Below.refl _ _))
                · obtain rfl := Option.some.inj (show some (Fv (.bool false)) = some F_ from hi)
                  clear hi hl
                  obtain ⟨x117, e117, rfl⟩ := hs 7 (by kernel_rfl) (Fv (.string (Go.strOfNums (List.take d.sure.toNat d.log)))) rfl 117 rfl
                  obtain ⟨x120, e120, rfl⟩ := hs 10 (by kernel_rfl) (Fv (.string (Go.strOfNums (List.take d.sure.toNat d.log)))) rfl 120 rfl
                  obtain ⟨x114, e114, rfl⟩ := hs 4 (by kernel_rfl) (Fv (.bool false)) rfl 114 rfl
                  refine ⟨_, rfl, fun KR hKR => ?_⟩
                  rw [if_pos (wanted_of (j := 4) (d := 114) rfl rfl e114)]
                  clear e114
                  clear hs ho
                  go_simp
                  exact hKR _ _ rfl (Below.refl _ _)
                · obtain rfl := Option.some.inj (show some (Fv (.bool false)) = some F_ from hi)
                  clear hi hl
                  obtain ⟨x114, e114, rfl⟩ := hs 4 (by kernel_rfl) (Fv (.bool false)) rfl 114 rfl
                  obtain ⟨x121, e121, rfl⟩ := hs 11 (by kernel_rfl) (Fv (.bool false)) rfl 121 rfl
                  refine ⟨_, rfl, fun KR hKR => ?_⟩
                  rw [if_pos (show Region.wanted _ _ = true from rfl)]
                  clear hs ho
                  go_simp
                  exact hKR _ _ rfl (Below.refl _ _)
                · obtain rfl := Option.some.inj (show some (Fv (.bool false)) = some F_ from hi)
                  clear hi hl
                  obtain ⟨x122, e122, rfl⟩ := hs 12 (by kernel_rfl) (Fv (.bool false)) rfl 122 rfl
                  refine ⟨_, rfl, fun KR hKR => ?_⟩
                  rw [if_pos (show Region.wanted _ _ = true from rfl)]
                  clear hs ho
                  go_simp
                  exact hKR _ _ rfl (Below.refl _ _)
                · obtain rfl := Option.some.inj (show some (Fv (dp w1.heap.size)) = some F_ from hi)
                  clear hi hl
                  have e3 : a_.tmps[3]? = some (dp w1.heap.size) := (ho 3 (by kernel_rfl)).trans rfl
                  obtain ⟨x123, e123, rfl⟩ := hs 13 (by kernel_rfl) (Fv (.bool false)) rfl 123 rfl
                  refine ⟨_, rfl, fun KR hKR => ?_⟩
                  rw [if_pos (wanted_of (j := 13) (d := 123) rfl rfl e123)]
                  clear e123
                  clear hs ho
                  go_simp
                  exact hKR _ _ rfl (Below.refl _ _)
                · obtain rfl := Option.some.inj (show some (Fv (.int .i64 d'.sure)) = some F_ from hi)
                  clear hi hl
                  obtain ⟨x124, e124, rfl⟩ := hs 14 (by kernel_rfl) (Fv (dp w1.heap.size)) rfl 124 rfl
                  obtain ⟨x123, e123, rfl⟩ := hs 13 (by kernel_rfl) (Fv (.bool false)) rfl 123 rfl
                  refine ⟨_, rfl, fun KR hKR => ?_⟩
                  rw [if_pos (wanted_of (j := 13) (d := 123) rfl rfl e123)]
                  clear e123
                  clear hs ho
                  (go_simp; (go_at_call 18; refine (sure_any _ d' _ _ _ (hD'.out.below hB) hr1').mono ?_; rintro e w11 ⟨rfl, rfl⟩); exact hKR _ _ rfl (Below.refl _ _))
                · obtain rfl := Option.some.inj (show some (Fv (.int .i64 d.sure)) = some F_ from hi)
                  clear hi hl
                  have e8 : a_.tmps[8]? = some (.int .i64 d.sure) := (ho 8 (by kernel_rfl)).trans rfl
                  obtain ⟨x123, e123, rfl⟩ := hs 13 (by kernel_rfl) (Fv (.bool false)) rfl 123 rfl
                  refine ⟨_, rfl, fun KR hKR => ?_⟩
                  rw [if_pos (wanted_of (j := 13) (d := 123) rfl rfl e123)]
                  clear e123
                  clear hs ho
                  go_simp
                  exact hKR _ _ rfl (Below.refl _ _)
                · obtain rfl := Option.some.inj (show some (Fv (.bool false)) = some F_ from hi)
                  clear hi hl
                  obtain ⟨x125, e125, rfl⟩ := hs 15 (by kernel_rfl) (Fv (.int .i64 d'.sure)) rfl 125 rfl
                  obtain ⟨x126, e126, rfl⟩ := hs 16 (by kernel_rfl) (Fv (.int .i64 d.sure)) rfl 126 rfl
                  obtain ⟨x123, e123, rfl⟩ := hs 13 (by kernel_rfl) (Fv (.bool false)) rfl 123 rfl
                  refine ⟨_, rfl, fun KR hKR => ?_⟩
                  rw [if_pos (wanted_of (j := 13) (d := 123) rfl rfl e123)]
                  clear e123
                  clear hs ho
                  (go_simp; rw [show decide (d'.sure < d.sure) = false from decide_eq_false (by omega)]; exact hKR _ _ rfl (Below.refl _ _))
                · obtain rfl := Option.some.inj (show some (Fv (.bool false)) = some F_ from hi)
                  clear hi hl
                  obtain ⟨x123, e123, rfl⟩ := hs 13 (by kernel_rfl) (Fv (.bool false)) rfl 123 rfl
                  obtain ⟨x127, e127, rfl⟩ := hs 17 (by kernel_rfl) (Fv (.bool false)) rfl 127 rfl
                  refine ⟨_, rfl, fun KR hKR => ?_⟩
                  rw [if_pos (show Region.wanted _ _ = true from rfl)]
                  clear hs ho
                  go_simp
                  exact hKR _ _ rfl (Below.refl _ _)
              · intro vals_ W hv hB
                have v0 : vals_ 0 = .string (Go.strOfNums d'.log) := hv 0 _ rfl
                have v1 : vals_ 1 = .int .i64 d'.log.length := hv 1 _ rfl
                have v2 : vals_ 2 = .int .i64 d.sure := hv 2 _ rfl
                have v3 : vals_ 3 = .bool false := hv 3 _ rfl
                have v4 : vals_ 4 = .bool false := hv 4 _ rfl
                have v5 : vals_ 5 = .string (Go.strOfNums d'.log) := hv 5 _ rfl
                have v6 : vals_ 6 = .int .i64 d.sure := hv 6 _ rfl
                have v7 : vals_ 7 = .string (Go.strOfNums (List.take d.sure.toNat d.log)) := hv 7 _ rfl
                have v8 : vals_ 8 = .string (Go.strOfNums d.log) := hv 8 _ rfl
                have v9 : vals_ 9 = .int .i64 d.sure := hv 9 _ rfl
                have v10 : vals_ 10 = .string (Go.strOfNums (List.take d.sure.toNat d.log)) := hv 10 _ rfl
                have v11 : vals_ 11 = .bool false := hv 11 _ rfl
                have v12 : vals_ 12 = .bool false := hv 12 _ rfl
                have v13 : vals_ 13 = .bool false := hv 13 _ rfl
                have v14 : vals_ 14 = dp w1.heap.size := hv 14 _ rfl
                have v15 : vals_ 15 = .int .i64 d'.sure := hv 15 _ rfl
                have v16 : vals_ 16 = .int .i64 d.sure := hv 16 _ rfl
                have v17 : vals_ 17 = .bool false := hv 17 _ rfl
                have v18 : vals_ 18 = .bool false := hv 18 _ rfl
                simp only [List.length_cons, List.length_nil, Nat.zero_add, Nat.reduceAdd, List.size_toArray, slots, if_true, dstOf, List.getElem?_toArray, List.getElem?_cons_zero, List.getElem?_cons_succ, Option.bind_some, Act.put, List.setIfInBounds_toArray, List.set_cons_zero, List.set_cons_succ, v0, v1, v2, v3, v4, v5, v6, v7, v8, v9, v10, v11, v12, v13, v14, v15, v16, v17, v18]
                clear hv v0 v1 v2 v3 v4 v5 v6 v7 v8 v9 v10 v11 v12 v13 v14 v15 v16 v17 v18
                change wpAny _ _ _ _ 0 _ _ _
                refine wpAny_done (by kernel_rfl) ?_ _
                obtain ⟨wq, rfl⟩ : ∃ wq, wq = W := ⟨_, rfl⟩
                have z60 := pw_cell_below hB z60
                have hD' := Lib.hid (hD'.out.below hB)
                have hS' := Lib.hid (hS'.out.below hB)
                have hbox' := Lib.hid ((hB.block _ (heap_lt hbox'.out)).trans hbox'.out)
                have hB' := Lib.hid (bel hB'.out hB)
                clear hB
                by_cases k5 : x.f0 = 5
                · by_cases k3 : x.f0 = 3
                  · exfalso; omega
                  obtain ⟨u1, u2r, u3⟩ := hA'.out.crash k5
                  have u2 := u2r.symm
                  clear u2r
                  have u1n : ¬ d.log.length < d'.log.length := by omega
                  have us := str_take d.log
                  have z60 : wq.cell? ⟨wr.heap.size, 0, none⟩ = some (.int .i64 5) := by rw [← k5]; exact cell_of_heap hbox'.out rfl
                  replace k5 := Lib.hid k5
                  clear k3
                  go_wp2_with (first
                    | (go_at_call 18; refine (sure_any _ d' _ _ _ hD'.out hr1').mono ?_; rintro e w11 ⟨rfl, rfl⟩))
                  all_goals
                    have hbox' := hbox'.out
                    by_cases hst : ((Go.strOfNums d'.snap).toList == (Go.strOfNums d.snap).toList) = true
                    · refine drawn_phi (w := wq) ([Fv (dp w1.heap.size), (fun v W => Slc W v d'.snap), Fv (.string (Go.strOfNums d'.snap)), Fv (.string (Go.strOfNums d.snap)), Fv (.bool false), Fv (.bool false), Fv (undef), Fv (undef), Fv (undef), Fv (undef), Fv (undef), Fv (undef), Fv (undef), Fv (undef), Fv (undef), Fv (undef), Fv (undef), Fv (undef), Fv (undef), Fv (undef), Fv (undef), Fv (undef), Fv (.bool false)] : List (Value → World → Prop)) (by kernel_rfl) (by kernel_rfl) (by kernel_rfl) ?_ ?_ ?_
                      · intro i_ F_ hi
                        have hl := (List.getElem?_eq_some_iff.1 hi).1
                        rcases (show i_ = 0 ∨ i_ = 1 ∨ i_ = 2 ∨ i_ = 3 ∨ i_ = 4 ∨ i_ = 5 ∨ i_ = 6 ∨ i_ = 7 ∨ i_ = 8 ∨ i_ = 9 ∨ i_ = 10 ∨ i_ = 11 ∨ i_ = 12 ∨ i_ = 13 ∨ i_ = 14 ∨ i_ = 15 ∨ i_ = 16 ∨ i_ = 17 ∨ i_ = 18 ∨ i_ = 19 ∨ i_ = 20 ∨ i_ = 21 ∨ i_ = 22 by simp at hl; omega) with rfl | rfl | rfl | rfl | rfl | rfl | rfl | rfl | rfl | rfl | rfl | rfl | rfl | rfl | rfl | rfl | rfl | rfl | rfl | rfl | rfl | rfl | rfl
                        · obtain rfl := Option.some.inj (show some (Fv (dp w1.heap.size)) = some F_ from hi)
                          exact mono_v _
                        · obtain rfl := Option.some.inj (show some ((fun v W => Slc W v d'.snap)) = some F_ from hi)
                          exact fun v W W1 h hb => Slc.below h hb
                        · obtain rfl := Option.some.inj (show some (Fv (.string (Go.strOfNums d'.snap))) = some F_ from hi)
                          exact mono_v _
                        · obtain rfl := Option.some.inj (show some (Fv (.string (Go.strOfNums d.snap))) = some F_ from hi)
                          exact mono_v _
                        · obtain rfl := Option.some.inj (show some (Fv (.bool false)) = some F_ from hi)
                          exact mono_v _
                        · obtain rfl := Option.some.inj (show some (Fv (.bool false)) = some F_ from hi)
                          exact mono_v _
                        · obtain rfl := Option.some.inj (show some (Fv (undef)) = some F_ from hi)
                          exact mono_v _
                        · obtain rfl := Option.some.inj (show some (Fv (undef)) = some F_ from hi)
                          exact mono_v _
                        · obtain rfl := Option.some.inj (show some (Fv (undef)) = some F_ from hi)
                          exact mono_v _
                        · obtain rfl := Option.some.inj (show some (Fv (undef)) = some F_ from hi)
                          exact mono_v _
                        · obtain rfl := Option.some.inj (show some (Fv (undef)) = some F_ from hi)
                          exact mono_v _
                        · obtain rfl := Option.some.inj (show some (Fv (undef)) = some F_ from hi)
                          exact mono_v _
                        · obtain rfl := Option.some.inj (show some (Fv (undef)) = some F_ from hi)
                          exact mono_v _
                        · obtain rfl := Option.some.inj (show some (Fv (undef)) = some F_ from hi)
                          exact mono_v _
                        · obtain rfl := Option.some.inj (show some (Fv (undef)) = some F_ from hi)
                          exact mono_v _
                        · obtain rfl := Option.some.inj (show some (Fv (undef)) = some F_ from hi)
                          exact mono_v _
                        · obtain rfl := Option.some.inj (show some (Fv (undef)) = some F_ from hi)
                          exact mono_v _
                        · obtain rfl := Option.some.inj (show some (Fv (undef)) = some F_ from hi)
                          exact mono_v _
                        · obtain rfl := Option.some.inj (show some (Fv (undef)) = some F_ from hi)
                          exact mono_v _
                        · obtain rfl := Option.some.inj (show some (Fv (undef)) = some F_ from hi)
                          exact mono_v _
                        · obtain rfl := Option.some.inj (show some (Fv (undef)) = some F_ from hi)
                          exact mono_v _
                        · obtain rfl := Option.some.inj (show some (Fv (undef)) = some F_ from hi)
                          exact mono_v _
                        · obtain rfl := Option.some.inj (show some (Fv (.bool false)) = some F_ from hi)
                          exact mono_v _
                      · intro i_ F_ hi a_ W hs ho hB
                        have hl := (List.getElem?_eq_some_iff.1 hi).1
                        rcases (show i_ = 0 ∨ i_ = 1 ∨ i_ = 2 ∨ i_ = 3 ∨ i_ = 4 ∨ i_ = 5 ∨ i_ = 6 ∨ i_ = 7 ∨ i_ = 8 ∨ i_ = 9 ∨ i_ = 10 ∨ i_ = 11 ∨ i_ = 12 ∨ i_ = 13 ∨ i_ = 14 ∨ i_ = 15 ∨ i_ = 16 ∨ i_ = 17 ∨ i_ = 18 ∨ i_ = 19 ∨ i_ = 20 ∨ i_ = 21 ∨ i_ = 22 by simp at hl; omega) with rfl | rfl | rfl | rfl | rfl | rfl | rfl | rfl | rfl | rfl | rfl | rfl | rfl | rfl | rfl | rfl | rfl | rfl | rfl | rfl | rfl | rfl | rfl
                        · obtain rfl := Option.some.inj (show some (Fv (dp w1.heap.size)) = some F_ from hi)
                          clear hi hl
                          have e3 : a_.tmps[3]? = some (dp w1.heap.size) := (ho 3 (by kernel_rfl)).trans rfl
                          refine ⟨_, rfl, fun KR hKR => ?_⟩
                          rw [if_pos (show Region.wanted _ _ = true from rfl)]
                          clear hs ho
                          go_simp
                          exact hKR _ _ rfl (Below.refl _ _)
                        · obtain rfl := Option.some.inj (show some ((fun v W => Slc W v d'.snap)) = some F_ from hi)
                          clear hi hl
                          obtain ⟨x154, e154, rfl⟩ := hs 0 (by kernel_rfl) (Fv (dp w1.heap.size)) rfl 154 rfl
                          refine ⟨_, rfl, fun KR hKR => ?_⟩
                          rw [if_pos (show Region.wanted _ _ = true from rfl)]
                          clear hs ho
                          (go_simp; (go_at_call 19; refine (snap_any _ d' _ _ _ (hD'.out.below hB) hr1' (by omega)).mono ?_; rintro e w9 ⟨v9, rfl, ho, hb⟩); exact hKR _ _ (Slc.own ho) hb)
                        · obtain rfl := Option.some.inj (show some (Fv (.string (Go.strOfNums d'.snap))) = some F_ from hi)
                          clear hi hl
                          obtain ⟨y155, e155, hp155⟩ := hs 1 (by kernel_rfl) (fun v W => Slc W v d'.snap) rfl 155 rfl
                          refine ⟨_, rfl, fun KR hKR => ?_⟩
                          rw [if_pos (show Region.wanted _ _ = true from rfl)]
                          clear hs ho
                          (obtain ⟨A9, a9, rfl, _, _, _, hr9, _⟩ := hp155; have E := Go.Proofs.YthodclhemleeaaaW.PrintWords.string_of_reads (P := Try.prog) (src := 31) (dst := 9) (c := a9) Try.underlying31 Try.underlying5 Try.underlying9 hr9; go_simp; exact hKR _ _ rfl (Below.refl _ _))
                        · obtain rfl := Option.some.inj (show some (Fv (.string (Go.strOfNums d.snap))) = some F_ from hi)
                          clear hi hl
                          have e9 : a_.tmps[9]? = some (.string (Go.strOfNums d.snap)) := (ho 9 (by kernel_rfl)).trans rfl
                          refine ⟨_, rfl, fun KR hKR => ?_⟩
                          rw [if_pos (show Region.wanted _ _ = true from rfl)]
                          clear hs ho
                          go_simp
                          exact hKR _ _ rfl (Below.refl _ _)
                        · obtain rfl := Option.some.inj (show some (Fv (.bool false)) = some F_ from hi)
                          clear hi hl
                          obtain ⟨x156, e156, rfl⟩ := hs 2 (by kernel_rfl) (Fv (.string (Go.strOfNums d'.snap))) rfl 156 rfl
                          obtain ⟨x157, e157, rfl⟩ := hs 3 (by kernel_rfl) (Fv (.string (Go.strOfNums d.snap))) rfl 157 rfl
                          refine ⟨_, rfl, fun KR hKR => ?_⟩
                          rw [if_pos (show Region.wanted _ _ = true from rfl)]
                          clear hs ho
                          go_simp
                          exact hKR _ _ rfl (Below.refl _ _)
                        · obtain rfl := Option.some.inj (show some (Fv (.bool false)) = some F_ from hi)
                          clear hi hl
                          obtain ⟨x158, e158, rfl⟩ := hs 4 (by kernel_rfl) (Fv (.bool false)) rfl 158 rfl
                          refine ⟨_, rfl, fun KR hKR => ?_⟩
                          rw [if_pos (show Region.wanted _ _ = true from rfl)]
                          clear hs ho
                          go_simp
                          exact hKR _ _ rfl (Below.refl _ _)
                        · obtain rfl := Option.some.inj (show some (Fv (undef)) = some F_ from hi)
                          clear hi hl
                          obtain ⟨x159, e159, rfl⟩ := hs 5 (by kernel_rfl) (Fv (.bool false)) rfl 159 rfl
                          refine ⟨_, rfl, fun KR hKR => ?_⟩
                          rw [if_neg (unwanted_of (j := 5) (d := 159) rfl rfl e159 (by first | (simp; done) | (simp [undef]; done)))]
                          exact hKR _ _ rfl (Below.refl _ _)
                        · obtain rfl := Option.some.inj (show some (Fv (undef)) = some F_ from hi)
                          clear hi hl
                          obtain ⟨x159, e159, rfl⟩ := hs 5 (by kernel_rfl) (Fv (.bool false)) rfl 159 rfl
                          refine ⟨_, rfl, fun KR hKR => ?_⟩
                          rw [if_neg (unwanted_of (j := 5) (d := 159) rfl rfl e159 (by first | (simp; done) | (simp [undef]; done)))]
                          exact hKR _ _ rfl (Below.refl _ _)
                        · obtain rfl := Option.some.inj (show some (Fv (undef)) = some F_ from hi)
                          clear hi hl
                          obtain ⟨x159, e159, rfl⟩ := hs 5 (by kernel_rfl) (Fv (.bool false)) rfl 159 rfl
                          refine ⟨_, rfl, fun KR hKR => ?_⟩
                          rw [if_neg (unwanted_of (j := 5) (d := 159) rfl rfl e159 (by first | (simp; done) | (simp [undef]; done)))]
                          exact hKR _ _ rfl (Below.refl _ _)
                        · obtain rfl := Option.some.inj (show some (Fv (undef)) = some F_ from hi)
                          clear hi hl
                          obtain ⟨x159, e159, rfl⟩ := hs 5 (by kernel_rfl) (Fv (.bool false)) rfl 159 rfl
                          refine ⟨_, rfl, fun KR hKR => ?_⟩
                          rw [if_neg (unwanted_of (j := 5) (d := 159) rfl rfl e159 (by first | (simp; done) | (simp [undef]; done)))]
                          exact hKR _ _ rfl (Below.refl _ _)
                        · obtain rfl := Option.some.inj (show some (Fv (undef)) = some F_ from hi)
                          clear hi hl
                          obtain ⟨x163, e163, rfl⟩ := hs 9 (by kernel_rfl) (Fv (undef)) rfl 163 rfl
                          refine ⟨_, rfl, fun KR hKR => ?_⟩
                          rw [if_neg (unwanted_of (j := 9) (d := 163) rfl rfl e163 (by first | (simp; done) | (simp [undef]; done)))]
                          exact hKR _ _ rfl (Below.refl _ _)
                        · obtain rfl := Option.some.inj (show some (Fv (undef)) = some F_ from hi)
                          clear hi hl
                          obtain ⟨x163, e163, rfl⟩ := hs 9 (by kernel_rfl) (Fv (undef)) rfl 163 rfl
                          refine ⟨_, rfl, fun KR hKR => ?_⟩
                          rw [if_neg (unwanted_of (j := 9) (d := 163) rfl rfl e163 (by first | (simp; done) | (simp [undef]; done)))]
                          exact hKR _ _ rfl (Below.refl _ _)
                        · obtain rfl := Option.some.inj (show some (Fv (undef)) = some F_ from hi)
                          clear hi hl
                          obtain ⟨x159, e159, rfl⟩ := hs 5 (by kernel_rfl) (Fv (.bool false)) rfl 159 rfl
                          refine ⟨_, rfl, fun KR hKR => ?_⟩
                          rw [if_neg (unwanted_of (j := 5) (d := 159) rfl rfl e159 (by first | (simp; done) | (simp [undef]; done)))]
                          exact hKR _ _ rfl (Below.refl _ _)
                        · obtain rfl := Option.some.inj (show some (Fv (undef)) = some F_ from hi)
                          clear hi hl
                          obtain ⟨x159, e159, rfl⟩ := hs 5 (by kernel_rfl) (Fv (.bool false)) rfl 159 rfl
                          refine ⟨_, rfl, fun KR hKR => ?_⟩
                          rw [if_neg (unwanted_of (j := 5) (d := 159) rfl rfl e159 (by first | (simp; done) | (simp [undef]; done)))]
                          exact hKR _ _ rfl (Below.refl _ _)
                        · obtain rfl := Option.some.inj (show some (Fv (undef)) = some F_ from hi)
                          clear hi hl
                          obtain ⟨x167, e167, rfl⟩ := hs 13 (by kernel_rfl) (Fv (undef)) rfl 167 rfl
                          refine ⟨_, rfl, fun KR hKR => ?_⟩
                          rw [if_neg (unwanted_of (j := 13) (d := 167) rfl rfl e167 (by first | (simp; done) | (simp [undef]; done)))]
                          exact hKR _ _ rfl (Below.refl _ _)
                        · obtain rfl := Option.some.inj (show some (Fv (undef)) = some F_ from hi)
                          clear hi hl
                          obtain ⟨x167, e167, rfl⟩ := hs 13 (by kernel_rfl) (Fv (undef)) rfl 167 rfl
                          refine ⟨_, rfl, fun KR hKR => ?_⟩
                          rw [if_neg (unwanted_of (j := 13) (d := 167) rfl rfl e167 (by first | (simp; done) | (simp [undef]; done)))]
                          exact hKR _ _ rfl (Below.refl _ _)
                        · obtain rfl := Option.some.inj (show some (Fv (undef)) = some F_ from hi)
                          clear hi hl
                          obtain ⟨x167, e167, rfl⟩ := hs 13 (by kernel_rfl) (Fv (undef)) rfl 167 rfl
                          refine ⟨_, rfl, fun KR hKR => ?_⟩
                          rw [if_neg (unwanted_of (j := 13) (d := 167) rfl rfl e167 (by first | (simp; done) | (simp [undef]; done)))]
                          exact hKR _ _ rfl (Below.refl _ _)
                        · obtain rfl := Option.some.inj (show some (Fv (undef)) = some F_ from hi)
                          clear hi hl
                          obtain ⟨x167, e167, rfl⟩ := hs 13 (by kernel_rfl) (Fv (undef)) rfl 167 rfl
                          refine ⟨_, rfl, fun KR hKR => ?_⟩
                          rw [if_neg (unwanted_of (j := 13) (d := 167) rfl rfl e167 (by first | (simp; done) | (simp [undef]; done)))]
                          exact hKR _ _ rfl (Below.refl _ _)
                        · obtain rfl := Option.some.inj (show some (Fv (undef)) = some F_ from hi)
                          clear hi hl
                          obtain ⟨x167, e167, rfl⟩ := hs 13 (by kernel_rfl) (Fv (undef)) rfl 167 rfl
                          refine ⟨_, rfl, fun KR hKR => ?_⟩
                          rw [if_neg (unwanted_of (j := 13) (d := 167) rfl rfl e167 (by first | (simp; done) | (simp [undef]; done)))]
                          exact hKR _ _ rfl (Below.refl _ _)
                        · obtain rfl := Option.some.inj (show some (Fv (undef)) = some F_ from hi)
                          clear hi hl
                          obtain ⟨x167, e167, rfl⟩ := hs 13 (by kernel_rfl) (Fv (undef)) rfl 167 rfl
                          refine ⟨_, rfl, fun KR hKR => ?_⟩
                          rw [if_neg (unwanted_of (j := 13) (d := 167) rfl rfl e167 (by first | (simp; done) | (simp [undef]; done)))]
                          exact hKR _ _ rfl (Below.refl _ _)
                        · obtain rfl := Option.some.inj (show some (Fv (undef)) = some F_ from hi)
                          clear hi hl
                          obtain ⟨x167, e167, rfl⟩ := hs 13 (by kernel_rfl) (Fv (undef)) rfl 167 rfl
                          refine ⟨_, rfl, fun KR hKR => ?_⟩
                          rw [if_neg (unwanted_of (j := 13) (d := 167) rfl rfl e167 (by first | (simp; done) | (simp [undef]; done)))]
                          exact hKR _ _ rfl (Below.refl _ _)
                        · obtain rfl := Option.some.inj (show some (Fv (undef)) = some F_ from hi)
                          clear hi hl
                          obtain ⟨x159, e159, rfl⟩ := hs 5 (by kernel_rfl) (Fv (.bool false)) rfl 159 rfl
                          refine ⟨_, rfl, fun KR hKR => ?_⟩
                          rw [if_neg (unwanted_of (j := 5) (d := 159) rfl rfl e159 (by first | (simp; done) | (simp [undef]; done)))]
                          exact hKR _ _ rfl (Below.refl _ _)
                        · obtain rfl := Option.some.inj (show some (Fv (.bool false)) = some F_ from hi)
                          clear hi hl
                          obtain ⟨x159, e159, rfl⟩ := hs 5 (by kernel_rfl) (Fv (.bool false)) rfl 159 rfl
                          obtain ⟨x175, e175, rfl⟩ := hs 21 (by kernel_rfl) (Fv (undef)) rfl 175 rfl
                          refine ⟨_, rfl, fun KR hKR => ?_⟩
                          rw [if_pos (show Region.wanted _ _ = true from rfl)]
                          clear hs ho
                          go_simp
                          exact hKR _ _ rfl (Below.refl _ _)
                      · intro vals_ W hv hB
                        have v0 : vals_ 0 = dp w1.heap.size := hv 0 _ rfl
                        have hp155 := hv 1 _ rfl
                        obtain ⟨y155, v1⟩ : ∃ y_, vals_ 1 = y_ := ⟨_, rfl⟩
                        rw [v1] at hp155
                        have v2 : vals_ 2 = .string (Go.strOfNums d'.snap) := hv 2 _ rfl
                        have v3 : vals_ 3 = .string (Go.strOfNums d.snap) := hv 3 _ rfl
                        have v4 : vals_ 4 = .bool false := hv 4 _ rfl
                        have v5 : vals_ 5 = .bool false := hv 5 _ rfl
                        have v6 : vals_ 6 = undef := hv 6 _ rfl
                        have v7 : vals_ 7 = undef := hv 7 _ rfl
                        have v8 : vals_ 8 = undef := hv 8 _ rfl
                        have v9 : vals_ 9 = undef := hv 9 _ rfl
                        have v10 : vals_ 10 = undef := hv 10 _ rfl
                        have v11 : vals_ 11 = undef := hv 11 _ rfl
                        have v12 : vals_ 12 = undef := hv 12 _ rfl
                        have v13 : vals_ 13 = undef := hv 13 _ rfl
                        have v14 : vals_ 14 = undef := hv 14 _ rfl
                        have v15 : vals_ 15 = undef := hv 15 _ rfl
                        have v16 : vals_ 16 = undef := hv 16 _ rfl
                        have v17 : vals_ 17 = undef := hv 17 _ rfl
                        have v18 : vals_ 18 = undef := hv 18 _ rfl
                        have v19 : vals_ 19 = undef := hv 19 _ rfl
                        have v20 : vals_ 20 = undef := hv 20 _ rfl
                        have v21 : vals_ 21 = undef := hv 21 _ rfl
                        have v22 : vals_ 22 = .bool false := hv 22 _ rfl
                        simp only [List.length_cons, List.length_nil, Nat.zero_add, Nat.reduceAdd, List.size_toArray, slots, if_true, dstOf, List.getElem?_toArray, List.getElem?_cons_zero, List.getElem?_cons_succ, Option.bind_some, Act.put, List.setIfInBounds_toArray, List.set_cons_zero, List.set_cons_succ, v0, v1, v2, v3, v4, v5, v6, v7, v8, v9, v10, v11, v12, v13, v14, v15, v16, v17, v18, v19, v20, v21, v22]
                        clear hv v0 v1 v2 v3 v4 v5 v6 v7 v8 v9 v10 v11 v12 v13 v14 v15 v16 v17 v18 v19 v20 v21 v22
                        change wpAny _ _ _ _ 0 _ _ _
                        refine wpAny_done (by kernel_rfl) ?_ _
                        go_wp2
                        refine ⟨⟨i + 1, d', _, _, by omega, by go_num, (hD'.out.below hB), hS2.out, bel hB'.out hB⟩, by simp [intOf]; omega⟩
                    · rcases hA'.out.snap with h | ⟨k2, hf0, hsn⟩
                      · exact absurd (by rw [h]; exact beq_self_eq_true _) hst
                      have hst := Bool.eq_false_iff.2 hst
                      have HSN := Lib.hid hsn
                      clear hsn
                      subst hf0
                      rw [k2] at hbox'
                      refine drawn_phi (w := wq) ([Fv (dp w1.heap.size), (fun v W => Slc W v d'.snap), Fv (.string (Go.strOfNums d'.snap)), Fv (.string (Go.strOfNums d.snap)), Fv (.bool true), Fv (.bool true), Fv (.pointer (some ⟨wr.heap.size, 0, none⟩)), Fv (.int .i64 2), Fv (.bool false), Fv (.bool false), Fv (.int .i64 0), Fv (.bool false), Fv (.bool false), Fv (.bool false), Fv (dp w1.heap.size), (fun v W => Slc W v d'.snap), Fv (.string (Go.strOfNums d'.snap)), Fv (.pointer (some ⟨wr.heap.size, 2, none⟩)), Fv (.slice A2 x.f2.length c2), Fv (.string (Go.strOfNums x.f2)), Fv (.bool false), Fv (.bool false), Fv (.bool false)] : List (Value → World → Prop)) (by kernel_rfl) (by kernel_rfl) (by kernel_rfl) ?_ ?_ ?_
                      · intro i_ F_ hi
                        have hl := (List.getElem?_eq_some_iff.1 hi).1
                        rcases (show i_ = 0 ∨ i_ = 1 ∨ i_ = 2 ∨ i_ = 3 ∨ i_ = 4 ∨ i_ = 5 ∨ i_ = 6 ∨ i_ = 7 ∨ i_ = 8 ∨ i_ = 9 ∨ i_ = 10 ∨ i_ = 11 ∨ i_ = 12 ∨ i_ = 13 ∨ i_ = 14 ∨ i_ = 15 ∨ i_ = 16 ∨ i_ = 17 ∨ i_ = 18 ∨ i_ = 19 ∨ i_ = 20 ∨ i_ = 21 ∨ i_ = 22 by simp at hl; omega) with rfl | rfl | rfl | rfl | rfl | rfl | rfl | rfl | rfl | rfl | rfl | rfl | rfl | rfl | rfl | rfl | rfl | rfl | rfl | rfl | rfl | rfl | rfl
                        · obtain rfl := Option.some.inj (show some (Fv (dp w1.heap.size)) = some F_ from hi)
                          exact mono_v _
                        · obtain rfl := Option.some.inj (show some ((fun v W => Slc W v d'.snap)) = some F_ from hi)
                          exact fun v W W1 h hb => Slc.below h hb
                        · obtain rfl := Option.some.inj (show some (Fv (.string (Go.strOfNums d'.snap))) = some F_ from hi)
                          exact mono_v _
                        · obtain rfl := Option.some.inj (show some (Fv (.string (Go.strOfNums d.snap))) = some F_ from hi)
                          exact mono_v _
                        · obtain rfl := Option.some.inj (show some (Fv (.bool true)) = some F_ from hi)
                          exact mono_v _
                        · obtain rfl := Option.some.inj (show some (Fv (.bool true)) = some F_ from hi)
                          exact mono_v _
                        · obtain rfl := Option.some.inj (show some (Fv (.pointer (some ⟨wr.heap.size, 0, none⟩))) = some F_ from hi)
                          exact mono_v _
                        · obtain rfl := Option.some.inj (show some (Fv (.int .i64 2)) = some F_ from hi)
                          exact mono_v _
                        · obtain rfl := Option.some.inj (show some (Fv (.bool false)) = some F_ from hi)
                          exact mono_v _
                        · obtain rfl := Option.some.inj (show some (Fv (.bool false)) = some F_ from hi)
                          exact mono_v _
                        · obtain rfl := Option.some.inj (show some (Fv (.int .i64 0)) = some F_ from hi)
                          exact mono_v _
                        · obtain rfl := Option.some.inj (show some (Fv (.bool false)) = some F_ from hi)
                          exact mono_v _
                        · obtain rfl := Option.some.inj (show some (Fv (.bool false)) = some F_ from hi)
                          exact mono_v _
                        · obtain rfl := Option.some.inj (show some (Fv (.bool false)) = some F_ from hi)
                          exact mono_v _
                        · obtain rfl := Option.some.inj (show some (Fv (dp w1.heap.size)) = some F_ from hi)
                          exact mono_v _
                        · obtain rfl := Option.some.inj (show some ((fun v W => Slc W v d'.snap)) = some F_ from hi)
                          exact fun v W W1 h hb => Slc.below h hb
                        · obtain rfl := Option.some.inj (show some (Fv (.string (Go.strOfNums d'.snap))) = some F_ from hi)
                          exact mono_v _
                        · obtain rfl := Option.some.inj (show some (Fv (.pointer (some ⟨wr.heap.size, 2, none⟩))) = some F_ from hi)
                          exact mono_v _
                        · obtain rfl := Option.some.inj (show some (Fv (.slice A2 x.f2.length c2)) = some F_ from hi)
                          exact mono_v _
                        · obtain rfl := Option.some.inj (show some (Fv (.string (Go.strOfNums x.f2))) = some F_ from hi)
                          exact mono_v _
                        · obtain rfl := Option.some.inj (show some (Fv (.bool false)) = some F_ from hi)
                          exact mono_v _
                        · obtain rfl := Option.some.inj (show some (Fv (.bool false)) = some F_ from hi)
                          exact mono_v _
                        · obtain rfl := Option.some.inj (show some (Fv (.bool false)) = some F_ from hi)
                          exact mono_v _
                      · intro i_ F_ hi a_ W hs ho hB
                        have hl := (List.getElem?_eq_some_iff.1 hi).1
                        rcases (show i_ = 0 ∨ i_ = 1 ∨ i_ = 2 ∨ i_ = 3 ∨ i_ = 4 ∨ i_ = 5 ∨ i_ = 6 ∨ i_ = 7 ∨ i_ = 8 ∨ i_ = 9 ∨ i_ = 10 ∨ i_ = 11 ∨ i_ = 12 ∨ i_ = 13 ∨ i_ = 14 ∨ i_ = 15 ∨ i_ = 16 ∨ i_ = 17 ∨ i_ = 18 ∨ i_ = 19 ∨ i_ = 20 ∨ i_ = 21 ∨ i_ = 22 by simp at hl; omega) with rfl | rfl | rfl | rfl | rfl | rfl | rfl | rfl | rfl | rfl | rfl | rfl | rfl | rfl | rfl | rfl | rfl | rfl | rfl | rfl | rfl | rfl | rfl
                        · obtain rfl := Option.some.inj (show some (Fv (dp w1.heap.size)) = some F_ from hi)
                          clear hi hl
                          have e3 : a_.tmps[3]? = some (dp w1.heap.size) := (ho 3 (by kernel_rfl)).trans rfl
                          refine ⟨_, rfl, fun KR hKR => ?_⟩
                          rw [if_pos (show Region.wanted _ _ = true from rfl)]
                          clear hs ho
                          go_simp
                          exact hKR _ _ rfl (Below.refl _ _)
                        · obtain rfl := Option.some.inj (show some ((fun v W => Slc W v d'.snap)) = some F_ from hi)
                          clear hi hl
                          obtain ⟨x154, e154, rfl⟩ := hs 0 (by kernel_rfl) (Fv (dp w1.heap.size)) rfl 154 rfl
                          refine ⟨_, rfl, fun KR hKR => ?_⟩
                          rw [if_pos (show Region.wanted _ _ = true from rfl)]
                          clear hs ho
                          (go_simp; (go_at_call 19; refine (snap_any _ d' _ _ _ (hD'.out.below hB) hr1' (by omega)).mono ?_; rintro e w9 ⟨v9, rfl, ho, hb⟩); exact hKR _ _ (Slc.own ho) hb)
                        · obtain rfl := Option.some.inj (show some (Fv (.string (Go.strOfNums d'.snap))) = some F_ from hi)
                          clear hi hl
                          obtain ⟨y155, e155, hp155⟩ := hs 1 (by kernel_rfl) (fun v W => Slc W v d'.snap) rfl 155 rfl
                          refine ⟨_, rfl, fun KR hKR => ?_⟩
                          rw [if_pos (show Region.wanted _ _ = true from rfl)]
                          clear hs ho
                          (obtain ⟨A9, a9, rfl, _, _, _, hr9, _⟩ := hp155; have E := Go.Proofs.YthodclhemleeaaaW.PrintWords.string_of_reads (P := Try.prog) (src := 31) (dst := 9) (c := a9) Try.underlying31 Try.underlying5 Try.underlying9 hr9; go_simp; exact hKR _ _ rfl (Below.refl _ _))
                        · obtain rfl := Option.some.inj (show some (Fv (.string (Go.strOfNums d.snap))) = some F_ from hi)
                          clear hi hl
                          have e9 : a_.tmps[9]? = some (.string (Go.strOfNums d.snap)) := (ho 9 (by kernel_rfl)).trans rfl
                          refine ⟨_, rfl, fun KR hKR => ?_⟩
                          rw [if_pos (show Region.wanted _ _ = true from rfl)]
                          clear hs ho
                          go_simp
                          exact hKR _ _ rfl (Below.refl _ _)
                        · obtain rfl := Option.some.inj (show some (Fv (.bool true)) = some F_ from hi)
                          clear hi hl
                          obtain ⟨x156, e156, rfl⟩ := hs 2 (by kernel_rfl) (Fv (.string (Go.strOfNums d'.snap))) rfl 156 rfl
                          obtain ⟨x157, e157, rfl⟩ := hs 3 (by kernel_rfl) (Fv (.string (Go.strOfNums d.snap))) rfl 157 rfl
                          refine ⟨_, rfl, fun KR hKR => ?_⟩
                          rw [if_pos (show Region.wanted _ _ = true from rfl)]
                          clear hs ho
                          go_simp
                          exact hKR _ _ rfl (Below.refl _ _)
                        · obtain rfl := Option.some.inj (show some (Fv (.bool true)) = some F_ from hi)
                          clear hi hl
                          obtain ⟨x158, e158, rfl⟩ := hs 4 (by kernel_rfl) (Fv (.bool true)) rfl 158 rfl
                          refine ⟨_, rfl, fun KR hKR => ?_⟩
                          rw [if_pos (show Region.wanted _ _ = true from rfl)]
                          clear hs ho
                          go_simp
                          exact hKR _ _ rfl (Below.refl _ _)
                        · obtain rfl := Option.some.inj (show some (Fv (.pointer (some ⟨wr.heap.size, 0, none⟩))) = some F_ from hi)
                          clear hi hl
                          have e6 : a_.tmps[6]? = some (.pointer (some ⟨wr.heap.size, 0, none⟩)) := (ho 6 (by kernel_rfl)).trans rfl
                          obtain ⟨x159, e159, rfl⟩ := hs 5 (by kernel_rfl) (Fv (.bool true)) rfl 159 rfl
                          refine ⟨_, rfl, fun KR hKR => ?_⟩
                          rw [if_pos (wanted_of (j := 5) (d := 159) rfl rfl e159)]
                          clear e159
                          clear hs ho
                          go_simp
                          exact hKR _ _ rfl (Below.refl _ _)
                        · obtain rfl := Option.some.inj (show some (Fv (.int .i64 2)) = some F_ from hi)
                          clear hi hl
                          obtain ⟨x160, e160, rfl⟩ := hs 6 (by kernel_rfl) (Fv (.pointer (some ⟨wr.heap.size, 0, none⟩))) rfl 160 rfl
                          obtain ⟨x159, e159, rfl⟩ := hs 5 (by kernel_rfl) (Fv (.bool true)) rfl 159 rfl
                          refine ⟨_, rfl, fun KR hKR => ?_⟩
                          rw [if_pos (wanted_of (j := 5) (d := 159) rfl rfl e159)]
                          clear e159
                          exact wp_load_cell 3 (.tmp 160) rfl wr.heap.size 0 (by simp [Act.eval, e160]) _ _ (0, 0) _ _ ((hB.block _ (heap_lt hbox')).trans hbox') rfl Try.underlying3 rfl (hKR _ _ rfl (Below.refl _ _))
                        · obtain rfl := Option.some.inj (show some (Fv (.bool false)) = some F_ from hi)
                          clear hi hl
                          obtain ⟨x161, e161, rfl⟩ := hs 7 (by kernel_rfl) (Fv (.int .i64 2)) rfl 161 rfl
                          obtain ⟨x159, e159, rfl⟩ := hs 5 (by kernel_rfl) (Fv (.bool true)) rfl 159 rfl
                          refine ⟨_, rfl, fun KR hKR => ?_⟩
                          rw [if_pos (wanted_of (j := 5) (d := 159) rfl rfl e159)]
                          clear e159
                          clear hs ho
                          go_simp
                          exact hKR _ _ rfl (Below.refl _ _)
                        · obtain rfl := Option.some.inj (show some (Fv (.bool false)) = some F_ from hi)
                          clear hi hl
                          obtain ⟨x162, e162, rfl⟩ := hs 8 (by kernel_rfl) (Fv (.bool false)) rfl 162 rfl
                          obtain ⟨x159, e159, rfl⟩ := hs 5 (by kernel_rfl) (Fv (.bool true)) rfl 159 rfl
                          refine ⟨_, rfl, fun KR hKR => ?_⟩
                          rw [if_pos (wanted_of (j := 5) (d := 159) rfl rfl e159)]
                          clear e159
                          clear hs ho
                          go_simp
                          exact hKR _ _ rfl (Below.refl _ _)
                        · obtain rfl := Option.some.inj (show some (Fv (.int .i64 0)) = some F_ from hi)
                          clear hi hl
                          have e10 : a_.tmps[10]? = some (.int .i64 0) := (ho 10 (by kernel_rfl)).trans rfl
                          obtain ⟨x163, e163, rfl⟩ := hs 9 (by kernel_rfl) (Fv (.bool false)) rfl 163 rfl
                          refine ⟨_, rfl, fun KR hKR => ?_⟩
                          rw [if_pos (wanted_of (j := 9) (d := 163) rfl rfl e163)]
                          clear e163
                          clear hs ho
                          go_simp
                          exact hKR _ _ rfl (Below.refl _ _)
                        · obtain rfl := Option.some.inj (show some (Fv (.bool false)) = some F_ from hi)
                          clear hi hl
                          obtain ⟨x164, e164, rfl⟩ := hs 10 (by kernel_rfl) (Fv (.int .i64 0)) rfl 164 rfl
                          obtain ⟨x163, e163, rfl⟩ := hs 9 (by kernel_rfl) (Fv (.bool false)) rfl 163 rfl
                          refine ⟨_, rfl, fun KR hKR => ?_⟩
                          rw [if_pos (wanted_of (j := 9) (d := 163) rfl rfl e163)]
                          clear e163
                          clear hs ho
                          go_simp
                          exact hKR _ _ rfl (Below.refl _ _)
                        · obtain rfl := Option.some.inj (show some (Fv (.bool false)) = some F_ from hi)
                          clear hi hl
                          obtain ⟨x163, e163, rfl⟩ := hs 9 (by kernel_rfl) (Fv (.bool false)) rfl 163 rfl
                          obtain ⟨x165, e165, rfl⟩ := hs 11 (by kernel_rfl) (Fv (.bool false)) rfl 165 rfl
                          obtain ⟨x159, e159, rfl⟩ := hs 5 (by kernel_rfl) (Fv (.bool true)) rfl 159 rfl
                          refine ⟨_, rfl, fun KR hKR => ?_⟩
                          rw [if_pos (wanted_of (j := 5) (d := 159) rfl rfl e159)]
                          clear e159
                          clear hs ho
                          go_simp
                          exact hKR _ _ rfl (Below.refl _ _)
                        · obtain rfl := Option.some.inj (show some (Fv (.bool false)) = some F_ from hi)
                          clear hi hl
                          obtain ⟨x166, e166, rfl⟩ := hs 12 (by kernel_rfl) (Fv (.bool false)) rfl 166 rfl
                          obtain ⟨x159, e159, rfl⟩ := hs 5 (by kernel_rfl) (Fv (.bool true)) rfl 159 rfl
                          refine ⟨_, rfl, fun KR hKR => ?_⟩
                          rw [if_pos (wanted_of (j := 5) (d := 159) rfl rfl e159)]
                          clear e159
                          clear hs ho
                          go_simp
                          exact hKR _ _ rfl (Below.refl _ _)
                        · obtain rfl := Option.some.inj (show some (Fv (dp w1.heap.size)) = some F_ from hi)
                          clear hi hl
                          have e3 : a_.tmps[3]? = some (dp w1.heap.size) := (ho 3 (by kernel_rfl)).trans rfl
                          obtain ⟨x167, e167, rfl⟩ := hs 13 (by kernel_rfl) (Fv (.bool false)) rfl 167 rfl
                          refine ⟨_, rfl, fun KR hKR => ?_⟩
                          rw [if_pos (wanted_of (j := 13) (d := 167) rfl rfl e167)]
                          clear e167
                          clear hs ho
                          go_simp
                          exact hKR _ _ rfl (Below.refl _ _)
                        · obtain rfl := Option.some.inj (show some ((fun v W => Slc W v d'.snap)) = some F_ from hi)
                          clear hi hl
                          obtain ⟨x168, e168, rfl⟩ := hs 14 (by kernel_rfl) (Fv (dp w1.heap.size)) rfl 168 rfl
                          obtain ⟨x167, e167, rfl⟩ := hs 13 (by kernel_rfl) (Fv (.bool false)) rfl 167 rfl
                          refine ⟨_, rfl, fun KR hKR => ?_⟩
                          rw [if_pos (wanted_of (j := 13) (d := 167) rfl rfl e167)]
                          clear e167
                          clear hs ho
                          (go_simp; (go_at_call 19; refine (snap_any _ d' _ _ _ (hD'.out.below hB) hr1' (by omega)).mono ?_; rintro e w9 ⟨v9, rfl, ho, hb⟩); exact hKR _ _ (Slc.own ho) hb)
                        · obtain rfl := Option.some.inj (show some (Fv (.string (Go.strOfNums d'.snap))) = some F_ from hi)
                          clear hi hl
                          obtain ⟨y169, e169, hp169⟩ := hs 15 (by kernel_rfl) (fun v W => Slc W v d'.snap) rfl 169 rfl
                          obtain ⟨x167, e167, rfl⟩ := hs 13 (by kernel_rfl) (Fv (.bool false)) rfl 167 rfl
                          refine ⟨_, rfl, fun KR hKR => ?_⟩
                          rw [if_pos (wanted_of (j := 13) (d := 167) rfl rfl e167)]
                          clear e167
                          clear hs ho
                          (obtain ⟨A9, a9, rfl, _, _, _, hr9, _⟩ := hp169; have E := Go.Proofs.YthodclhemleeaaaW.PrintWords.string_of_reads (P := Try.prog) (src := 31) (dst := 9) (c := a9) Try.underlying31 Try.underlying5 Try.underlying9 hr9; go_simp; exact hKR _ _ rfl (Below.refl _ _))
                        · obtain rfl := Option.some.inj (show some (Fv (.pointer (some ⟨wr.heap.size, 2, none⟩))) = some F_ from hi)
                          clear hi hl
                          have e6 : a_.tmps[6]? = some (.pointer (some ⟨wr.heap.size, 0, none⟩)) := (ho 6 (by kernel_rfl)).trans rfl
                          obtain ⟨x167, e167, rfl⟩ := hs 13 (by kernel_rfl) (Fv (.bool false)) rfl 167 rfl
                          refine ⟨_, rfl, fun KR hKR => ?_⟩
                          rw [if_pos (wanted_of (j := 13) (d := 167) rfl rfl e167)]
                          clear e167
                          clear hs ho
                          go_simp
                          exact hKR _ _ rfl (Below.refl _ _)
                        · obtain rfl := Option.some.inj (show some (Fv (.slice A2 x.f2.length c2)) = some F_ from hi)
                          clear hi hl
                          obtain ⟨x171, e171, rfl⟩ := hs 17 (by kernel_rfl) (Fv (.pointer (some ⟨wr.heap.size, 2, none⟩))) rfl 171 rfl
                          obtain ⟨x167, e167, rfl⟩ := hs 13 (by kernel_rfl) (Fv (.bool false)) rfl 167 rfl
                          refine ⟨_, rfl, fun KR hKR => ?_⟩
                          rw [if_pos (wanted_of (j := 13) (d := 167) rfl rfl e167)]
                          clear e167
                          exact wp_load_cell 31 (.tmp 171) rfl wr.heap.size 2 (by simp [Act.eval, e171]) _ _ (0, 0) _ _ ((hB.block _ (heap_lt hbox')).trans hbox') rfl Try.underlying31 rfl (hKR _ _ rfl (Below.refl _ _))
                        · obtain rfl := Option.some.inj (show some (Fv (.string (Go.strOfNums x.f2))) = some F_ from hi)
                          clear hi hl
                          obtain ⟨x172, e172, rfl⟩ := hs 18 (by kernel_rfl) (Fv (.slice A2 x.f2.length c2)) rfl 172 rfl
                          obtain ⟨x167, e167, rfl⟩ := hs 13 (by kernel_rfl) (Fv (.bool false)) rfl 167 rfl
                          refine ⟨_, rfl, fun KR hKR => ?_⟩
                          rw [if_pos (wanted_of (j := 13) (d := 167) rfl rfl e167)]
                          clear e167
                          clear hs ho
                          (have E := Go.Proofs.YthodclhemleeaaaW.PrintWords.string_of_reads (P := Try.prog) (src := 31) (dst := 9) (c := c2) Try.underlying31 Try.underlying5 Try.underlying9 (hS'.out.below hB).reads; go_simp; exact hKR _ _ rfl (Below.refl _ _))
                        · obtain rfl := Option.some.inj (show some (Fv (.bool false)) = some F_ from hi)
                          clear hi hl
                          obtain ⟨x170, e170, rfl⟩ := hs 16 (by kernel_rfl) (Fv (.string (Go.strOfNums d'.snap))) rfl 170 rfl
                          obtain ⟨x173, e173, rfl⟩ := hs 19 (by kernel_rfl) (Fv (.string (Go.strOfNums x.f2))) rfl 173 rfl
                          obtain ⟨x167, e167, rfl⟩ := hs 13 (by kernel_rfl) (Fv (.bool false)) rfl 167 rfl
                          refine ⟨_, rfl, fun KR hKR => ?_⟩
                          rw [if_pos (wanted_of (j := 13) (d := 167) rfl rfl e167)]
                          clear e167
                          clear hs ho
                          (go_simp; rw [show ((Go.strOfNums d'.snap).toList == (Go.strOfNums x.f2).toList) = true from by rw [HSN.out]; exact beq_self_eq_true _]; exact hKR _ _ rfl (Below.refl _ _))
                        · obtain rfl := Option.some.inj (show some (Fv (.bool false)) = some F_ from hi)
                          clear hi hl
                          obtain ⟨x167, e167, rfl⟩ := hs 13 (by kernel_rfl) (Fv (.bool false)) rfl 167 rfl
                          obtain ⟨x174, e174, rfl⟩ := hs 20 (by kernel_rfl) (Fv (.bool false)) rfl 174 rfl
                          obtain ⟨x159, e159, rfl⟩ := hs 5 (by kernel_rfl) (Fv (.bool true)) rfl 159 rfl
                          refine ⟨_, rfl, fun KR hKR => ?_⟩
                          rw [if_pos (wanted_of (j := 5) (d := 159) rfl rfl e159)]
                          clear e159
                          clear hs ho
                          go_simp
                          exact hKR _ _ rfl (Below.refl _ _)
                        · obtain rfl := Option.some.inj (show some (Fv (.bool false)) = some F_ from hi)
                          clear hi hl
                          obtain ⟨x159, e159, rfl⟩ := hs 5 (by kernel_rfl) (Fv (.bool true)) rfl 159 rfl
                          obtain ⟨x175, e175, rfl⟩ := hs 21 (by kernel_rfl) (Fv (.bool false)) rfl 175 rfl
                          refine ⟨_, rfl, fun KR hKR => ?_⟩
                          rw [if_pos (show Region.wanted _ _ = true from rfl)]
                          clear hs ho
                          go_simp
                          exact hKR _ _ rfl (Below.refl _ _)
                      · intro vals_ W hv hB
                        have v0 : vals_ 0 = dp w1.heap.size := hv 0 _ rfl
                        have hp155 := hv 1 _ rfl
                        obtain ⟨y155, v1⟩ : ∃ y_, vals_ 1 = y_ := ⟨_, rfl⟩
                        rw [v1] at hp155
                        have v2 : vals_ 2 = .string (Go.strOfNums d'.snap) := hv 2 _ rfl
                        have v3 : vals_ 3 = .string (Go.strOfNums d.snap) := hv 3 _ rfl
                        have v4 : vals_ 4 = .bool true := hv 4 _ rfl
                        have v5 : vals_ 5 = .bool true := hv 5 _ rfl
                        have v6 : vals_ 6 = .pointer (some ⟨wr.heap.size, 0, none⟩) := hv 6 _ rfl
                        have v7 : vals_ 7 = .int .i64 2 := hv 7 _ rfl
                        have v8 : vals_ 8 = .bool false := hv 8 _ rfl
                        have v9 : vals_ 9 = .bool false := hv 9 _ rfl
                        have v10 : vals_ 10 = .int .i64 0 := hv 10 _ rfl
                        have v11 : vals_ 11 = .bool false := hv 11 _ rfl
                        have v12 : vals_ 12 = .bool false := hv 12 _ rfl
                        have v13 : vals_ 13 = .bool false := hv 13 _ rfl
                        have v14 : vals_ 14 = dp w1.heap.size := hv 14 _ rfl
                        have hp169 := hv 15 _ rfl
                        obtain ⟨y169, v15⟩ : ∃ y_, vals_ 15 = y_ := ⟨_, rfl⟩
                        rw [v15] at hp169
                        have v16 : vals_ 16 = .string (Go.strOfNums d'.snap) := hv 16 _ rfl
                        have v17 : vals_ 17 = .pointer (some ⟨wr.heap.size, 2, none⟩) := hv 17 _ rfl
                        have v18 : vals_ 18 = .slice A2 x.f2.length c2 := hv 18 _ rfl
                        have v19 : vals_ 19 = .string (Go.strOfNums x.f2) := hv 19 _ rfl
                        have v20 : vals_ 20 = .bool false := hv 20 _ rfl
                        have v21 : vals_ 21 = .bool false := hv 21 _ rfl
                        have v22 : vals_ 22 = .bool false := hv 22 _ rfl
                        simp only [List.length_cons, List.length_nil, Nat.zero_add, Nat.reduceAdd, List.size_toArray, slots, if_true, dstOf, List.getElem?_toArray, List.getElem?_cons_zero, List.getElem?_cons_succ, Option.bind_some, Act.put, List.setIfInBounds_toArray, List.set_cons_zero, List.set_cons_succ, v0, v1, v2, v3, v4, v5, v6, v7, v8, v9, v10, v11, v12, v13, v14, v15, v16, v17, v18, v19, v20, v21, v22]
                        clear hv v0 v1 v2 v3 v4 v5 v6 v7 v8 v9 v10 v11 v12 v13 v14 v15 v16 v17 v18 v19 v20 v21 v22
                        change wpAny _ _ _ _ 0 _ _ _
                        refine wpAny_done (by kernel_rfl) ?_ _
                        go_wp2
                        refine ⟨⟨i + 1, d', _, _, by omega, by go_num, (hD'.out.below hB), hS2.out, bel hB'.out hB⟩, by simp [intOf]; omega⟩
                · go_wp2_with (first
                    | (go_at_call 18; refine (sure_any _ d' _ _ _ hD'.out hr1').mono ?_; rintro e w11 ⟨rfl, rfl⟩))
                  have hbox' := hbox'.out
                  by_cases hst : ((Go.strOfNums d'.snap).toList == (Go.strOfNums d.snap).toList) = true
                  · refine drawn_phi (w := wq) ([Fv (dp w1.heap.size), (fun v W => Slc W v d'.snap), Fv (.string (Go.strOfNums d'.snap)), Fv (.string (Go.strOfNums d.snap)), Fv (.bool false), Fv (.bool false), Fv (undef), Fv (undef), Fv (undef), Fv (undef), Fv (undef), Fv (undef), Fv (undef), Fv (undef), Fv (undef), Fv (undef), Fv (undef), Fv (undef), Fv (undef), Fv (undef), Fv (undef), Fv (undef), Fv (.bool false)] : List (Value → World → Prop)) (by kernel_rfl) (by kernel_rfl) (by kernel_rfl) ?_ ?_ ?_
                    · intro i_ F_ hi
                      have hl := (List.getElem?_eq_some_iff.1 hi).1
                      rcases (show i_ = 0 ∨ i_ = 1 ∨ i_ = 2 ∨ i_ = 3 ∨ i_ = 4 ∨ i_ = 5 ∨ i_ = 6 ∨ i_ = 7 ∨ i_ = 8 ∨ i_ = 9 ∨ i_ = 10 ∨ i_ = 11 ∨ i_ = 12 ∨ i_ = 13 ∨ i_ = 14 ∨ i_ = 15 ∨ i_ = 16 ∨ i_ = 17 ∨ i_ = 18 ∨ i_ = 19 ∨ i_ = 20 ∨ i_ = 21 ∨ i_ = 22 by simp at hl; omega) with rfl | rfl | rfl | rfl | rfl | rfl | rfl | rfl | rfl | rfl | rfl | rfl | rfl | rfl | rfl | rfl | rfl | rfl | rfl | rfl | rfl | rfl | rfl
                      · obtain rfl := Option.some.inj (show some (Fv (dp w1.heap.size)) = some F_ from hi)
                        exact mono_v _
                      · obtain rfl := Option.some.inj (show some ((fun v W => Slc W v d'.snap)) = some F_ from hi)
                        exact fun v W W1 h hb => Slc.below h hb
                      · obtain rfl := Option.some.inj (show some (Fv (.string (Go.strOfNums d'.snap))) = some F_ from hi)
                        exact mono_v _
                      · obtain rfl := Option.some.inj (show some (Fv (.string (Go.strOfNums d.snap))) = some F_ from hi)
                        exact mono_v _
                      · obtain rfl := Option.some.inj (show some (Fv (.bool false)) = some F_ from hi)
                        exact mono_v _
                      · obtain rfl := Option.some.inj (show some (Fv (.bool false)) = some F_ from hi)
                        exact mono_v _
                      · obtain rfl := Option.some.inj (show some (Fv (undef)) = some F_ from hi)
                        exact mono_v _
                      · obtain rfl := Option.some.inj (show some (Fv (undef)) = some F_ from hi)
                        exact mono_v _
                      · obtain rfl := Option.some.inj (show some (Fv (undef)) = some F_ from hi)
                        exact mono_v _
                      · obtain rfl := Option.some.inj (show some (Fv (undef)) = some F_ from hi)
                        exact mono_v _
                      · obtain rfl := Option.some.inj (show some (Fv (undef)) = some F_ from hi)
                        exact mono_v _
                      · obtain rfl := Option.some.inj (show some (Fv (undef)) = some F_ from hi)
                        exact mono_v _
                      · obtain rfl := Option.some.inj (show some (Fv (undef)) = some F_ from hi)
                        exact mono_v _
                      · obtain rfl := Option.some.inj (show some (Fv (undef)) = some F_ from hi)
                        exact mono_v _
                      · obtain rfl := Option.some.inj (show some (Fv (undef)) = some F_ from hi)
                        exact mono_v _
                      · obtain rfl := Option.some.inj (show some (Fv (undef)) = some F_ from hi)
                        exact mono_v _
                      · obtain rfl := Option.some.inj (show some (Fv (undef)) = some F_ from hi)
                        exact mono_v _
                      · obtain rfl := Option.some.inj (show some (Fv (undef)) = some F_ from hi)
                        exact mono_v _
                      · obtain rfl := Option.some.inj (show some (Fv (undef)) = some F_ from hi)
                        exact mono_v _
                      · obtain rfl := Option.some.inj (show some (Fv (undef)) = some F_ from hi)
                        exact mono_v _
                      · obtain rfl := Option.some.inj (show some (Fv (undef)) = some F_ from hi)
                        exact mono_v _
                      · obtain rfl := Option.some.inj (show some (Fv (undef)) = some F_ from hi)
                        exact mono_v _
                      · obtain rfl := Option.some.inj (show some (Fv (.bool false)) = some F_ from hi)
                        exact mono_v _
                    · intro i_ F_ hi a_ W hs ho hB
                      have hl := (List.getElem?_eq_some_iff.1 hi).1
                      rcases (show i_ = 0 ∨ i_ = 1 ∨ i_ = 2 ∨ i_ = 3 ∨ i_ = 4 ∨ i_ = 5 ∨ i_ = 6 ∨ i_ = 7 ∨ i_ = 8 ∨ i_ = 9 ∨ i_ = 10 ∨ i_ = 11 ∨ i_ = 12 ∨ i_ = 13 ∨ i_ = 14 ∨ i_ = 15 ∨ i_ = 16 ∨ i_ = 17 ∨ i_ = 18 ∨ i_ = 19 ∨ i_ = 20 ∨ i_ = 21 ∨ i_ = 22 by simp at hl; omega) with rfl | rfl | rfl | rfl | rfl | rfl | rfl | rfl | rfl | rfl | rfl | rfl | rfl | rfl | rfl | rfl | rfl | rfl | rfl | rfl | rfl | rfl | rfl
                      · obtain rfl := Option.some.inj (show some (Fv (dp w1.heap.size)) = some F_ from hi)
                        clear hi hl
                        have e3 : a_.tmps[3]? = some (dp w1.heap.size) := (ho 3 (by kernel_rfl)).trans rfl
                        refine ⟨_, rfl, fun KR hKR => ?_⟩
                        rw [if_pos (show Region.wanted _ _ = true from rfl)]
                        clear hs ho
                        go_simp
                        exact hKR _ _ rfl (Below.refl _ _)
                      · obtain rfl := Option.some.inj (show some ((fun v W => Slc W v d'.snap)) = some F_ from hi)
                        clear hi hl
                        obtain ⟨x154, e154, rfl⟩ := hs 0 (by kernel_rfl) (Fv (dp w1.heap.size)) rfl 154 rfl
                        refine ⟨_, rfl, fun KR hKR => ?_⟩
                        rw [if_pos (show Region.wanted _ _ = true from rfl)]
                        clear hs ho
                        (go_simp; (go_at_call 19; refine (snap_any _ d' _ _ _ (hD'.out.below hB) hr1' (by omega)).mono ?_; rintro e w9 ⟨v9, rfl, ho, hb⟩); exact hKR _ _ (Slc.own ho) hb)
                      · obtain rfl := Option.some.inj (show some (Fv (.string (Go.strOfNums d'.snap))) = some F_ from hi)
                        clear hi hl
                        obtain ⟨y155, e155, hp155⟩ := hs 1 (by kernel_rfl) (fun v W => Slc W v d'.snap) rfl 155 rfl
                        refine ⟨_, rfl, fun KR hKR => ?_⟩
                        rw [if_pos (show Region.wanted _ _ = true from rfl)]
                        clear hs ho
                        (obtain ⟨A9, a9, rfl, _, _, _, hr9, _⟩ := hp155; have E := Go.Proofs.YthodclhemleeaaaW.PrintWords.string_of_reads (P := Try.prog) (src := 31) (dst := 9) (c := a9) Try.underlying31 Try.underlying5 Try.underlying9 hr9; go_simp; exact hKR _ _ rfl (Below.refl _ _))
                      · obtain rfl := Option.some.inj (show some (Fv (.string (Go.strOfNums d.snap))) = some F_ from hi)
                        clear hi hl
                        have e9 : a_.tmps[9]? = some (.string (Go.strOfNums d.snap)) := (ho 9 (by kernel_rfl)).trans rfl
                        refine ⟨_, rfl, fun KR hKR => ?_⟩
                        rw [if_pos (show Region.wanted _ _ = true from rfl)]
                        clear hs ho
                        go_simp
                        exact hKR _ _ rfl (Below.refl _ _)
                      · obtain rfl := Option.some.inj (show some (Fv (.bool false)) = some F_ from hi)
                        clear hi hl
                        obtain ⟨x156, e156, rfl⟩ := hs 2 (by kernel_rfl) (Fv (.string (Go.strOfNums d'.snap))) rfl 156 rfl
                        obtain ⟨x157, e157, rfl⟩ := hs 3 (by kernel_rfl) (Fv (.string (Go.strOfNums d.snap))) rfl 157 rfl
                        refine ⟨_, rfl, fun KR hKR => ?_⟩
                        rw [if_pos (show Region.wanted _ _ = true from rfl)]
                        clear hs ho
                        go_simp
                        exact hKR _ _ rfl (Below.refl _ _)
                      · obtain rfl := Option.some.inj (show some (Fv (.bool false)) = some F_ from hi)
                        clear hi hl
                        obtain ⟨x158, e158, rfl⟩ := hs 4 (by kernel_rfl) (Fv (.bool false)) rfl 158 rfl
                        refine ⟨_, rfl, fun KR hKR => ?_⟩
                        rw [if_pos (show Region.wanted _ _ = true from rfl)]
                        clear hs ho
                        go_simp
                        exact hKR _ _ rfl (Below.refl _ _)
                      · obtain rfl := Option.some.inj (show some (Fv (undef)) = some F_ from hi)
                        clear hi hl
                        obtain ⟨x159, e159, rfl⟩ := hs 5 (by kernel_rfl) (Fv (.bool false)) rfl 159 rfl
                        refine ⟨_, rfl, fun KR hKR => ?_⟩
                        rw [if_neg (unwanted_of (j := 5) (d := 159) rfl rfl e159 (by first | (simp; done) | (simp [undef]; done)))]
                        exact hKR _ _ rfl (Below.refl _ _)
                      · obtain rfl := Option.some.inj (show some (Fv (undef)) = some F_ from hi)
                        clear hi hl
                        obtain ⟨x159, e159, rfl⟩ := hs 5 (by kernel_rfl) (Fv (.bool false)) rfl 159 rfl
                        refine ⟨_, rfl, fun KR hKR => ?_⟩
                        rw [if_neg (unwanted_of (j := 5) (d := 159) rfl rfl e159 (by first | (simp; done) | (simp [undef]; done)))]
                        exact hKR _ _ rfl (Below.refl _ _)
                      · obtain rfl := Option.some.inj (show some (Fv (undef)) = some F_ from hi)
                        clear hi hl
                        obtain ⟨x159, e159, rfl⟩ := hs 5 (by kernel_rfl) (Fv (.bool false)) rfl 159 rfl
                        refine ⟨_, rfl, fun KR hKR => ?_⟩
                        rw [if_neg (unwanted_of (j := 5) (d := 159) rfl rfl e159 (by first | (simp; done) | (simp [undef]; done)))]
                        exact hKR _ _ rfl (Below.refl _ _)
                      · obtain rfl := Option.some.inj (show some (Fv (undef)) = some F_ from hi)
                        clear hi hl
                        obtain ⟨x159, e159, rfl⟩ := hs 5 (by kernel_rfl) (Fv (.bool false)) rfl 159 rfl
                        refine ⟨_, rfl, fun KR hKR => ?_⟩
                        rw [if_neg (unwanted_of (j := 5) (d := 159) rfl rfl e159 (by first | (simp; done) | (simp [undef]; done)))]
                        exact hKR _ _ rfl (Below.refl _ _)
                      · obtain rfl := Option.some.inj (show some (Fv (undef)) = some F_ from hi)
                        clear hi hl
                        obtain ⟨x163, e163, rfl⟩ := hs 9 (by kernel_rfl) (Fv (undef)) rfl 163 rfl
                        refine ⟨_, rfl, fun KR hKR => ?_⟩
                        rw [if_neg (unwanted_of (j := 9) (d := 163) rfl rfl e163 (by first | (simp; done) | (simp [undef]; done)))]
                        exact hKR _ _ rfl (Below.refl _ _)
                      · obtain rfl := Option.some.inj (show some (Fv (undef)) = some F_ from hi)
                        clear hi hl
                        obtain ⟨x163, e163, rfl⟩ := hs 9 (by kernel_rfl) (Fv (undef)) rfl 163 rfl
                        refine ⟨_, rfl, fun KR hKR => ?_⟩
                        rw [if_neg (unwanted_of (j := 9) (d := 163) rfl rfl e163 (by first | (simp; done) | (simp [undef]; done)))]
                        exact hKR _ _ rfl (Below.refl _ _)
                      · obtain rfl := Option.some.inj (show some (Fv (undef)) = some F_ from hi)
                        clear hi hl
                        obtain ⟨x159, e159, rfl⟩ := hs 5 (by kernel_rfl) (Fv (.bool false)) rfl 159 rfl
                        refine ⟨_, rfl, fun KR hKR => ?_⟩
                        rw [if_neg (unwanted_of (j := 5) (d := 159) rfl rfl e159 (by first | (simp; done) | (simp [undef]; done)))]
                        exact hKR _ _ rfl (Below.refl _ _)
                      · obtain rfl := Option.some.inj (show some (Fv (undef)) = some F_ from hi)
                        clear hi hl
                        obtain ⟨x159, e159, rfl⟩ := hs 5 (by kernel_rfl) (Fv (.bool false)) rfl 159 rfl
                        refine ⟨_, rfl, fun KR hKR => ?_⟩
                        rw [if_neg (unwanted_of (j := 5) (d := 159) rfl rfl e159 (by first | (simp; done) | (simp [undef]; done)))]
                        exact hKR _ _ rfl (Below.refl _ _)
                      · obtain rfl := Option.some.inj (show some (Fv (undef)) = some F_ from hi)
                        clear hi hl
                        obtain ⟨x167, e167, rfl⟩ := hs 13 (by kernel_rfl) (Fv (undef)) rfl 167 rfl
                        refine ⟨_, rfl, fun KR hKR => ?_⟩
                        rw [if_neg (unwanted_of (j := 13) (d := 167) rfl rfl e167 (by first | (simp; done) | (simp [undef]; done)))]
                        exact hKR _ _ rfl (Below.refl _ _)
                      · obtain rfl := Option.some.inj (show some (Fv (undef)) = some F_ from hi)
                        clear hi hl
                        obtain ⟨x167, e167, rfl⟩ := hs 13 (by kernel_rfl) (Fv (undef)) rfl 167 rfl
                        refine ⟨_, rfl, fun KR hKR => ?_⟩
                        rw [if_neg (unwanted_of (j := 13) (d := 167) rfl rfl e167 (by first | (simp; done) | (simp [undef]; done)))]
                        exact hKR _ _ rfl (Below.refl _ _)
                      · obtain rfl := Option.some.inj (show some (Fv (undef)) = some F_ from hi)
                        clear hi hl
                        obtain ⟨x167, e167, rfl⟩ := hs 13 (by kernel_rfl) (Fv (undef)) rfl 167 rfl
                        refine ⟨_, rfl, fun KR hKR => ?_⟩
                        rw [if_neg (unwanted_of (j := 13) (d := 167) rfl rfl e167 (by first | (simp; done) | (simp [undef]; done)))]
                        exact hKR _ _ rfl (Below.refl _ _)
                      · obtain rfl := Option.some.inj (show some (Fv (undef)) = some F_ from hi)
                        clear hi hl
                        obtain ⟨x167, e167, rfl⟩ := hs 13 (by kernel_rfl) (Fv (undef)) rfl 167 rfl
                        refine ⟨_, rfl, fun KR hKR => ?_⟩
                        rw [if_neg (unwanted_of (j := 13) (d := 167) rfl rfl e167 (by first | (simp; done) | (simp [undef]; done)))]
                        exact hKR _ _ rfl (Below.refl _ _)
                      · obtain rfl := Option.some.inj (show some (Fv (undef)) = some F_ from hi)
                        clear hi hl
                        obtain ⟨x167, e167, rfl⟩ := hs 13 (by kernel_rfl) (Fv (undef)) rfl 167 rfl
                        refine ⟨_, rfl, fun KR hKR => ?_⟩
                        rw [if_neg (unwanted_of (j := 13) (d := 167) rfl rfl e167 (by first | (simp; done) | (simp [undef]; done)))]
                        exact hKR _ _ rfl (Below.refl _ _)
                      · obtain rfl := Option.some.inj (show some (Fv (undef)) = some F_ from hi)
                        clear hi hl
                        obtain ⟨x167, e167, rfl⟩ := hs 13 (by kernel_rfl) (Fv (undef)) rfl 167 rfl
                        refine ⟨_, rfl, fun KR hKR => ?_⟩
                        rw [if_neg (unwanted_of (j := 13) (d := 167) rfl rfl e167 (by first | (simp; done) | (simp [undef]; done)))]
                        exact hKR _ _ rfl (Below.refl _ _)
                      · obtain rfl := Option.some.inj (show some (Fv (undef)) = some F_ from hi)
                        clear hi hl
                        obtain ⟨x167, e167, rfl⟩ := hs 13 (by kernel_rfl) (Fv (undef)) rfl 167 rfl
                        refine ⟨_, rfl, fun KR hKR => ?_⟩
                        rw [if_neg (unwanted_of (j := 13) (d := 167) rfl rfl e167 (by first | (simp; done) | (simp [undef]; done)))]
                        exact hKR _ _ rfl (Below.refl _ _)
                      · obtain rfl := Option.some.inj (show some (Fv (undef)) = some F_ from hi)
                        clear hi hl
                        obtain ⟨x159, e159, rfl⟩ := hs 5 (by kernel_rfl) (Fv (.bool false)) rfl 159 rfl
                        refine ⟨_, rfl, fun KR hKR => ?_⟩
                        rw [if_neg (unwanted_of (j := 5) (d := 159) rfl rfl e159 (by first | (simp; done) | (simp [undef]; done)))]
                        exact hKR _ _ rfl (Below.refl _ _)
                      · obtain rfl := Option.some.inj (show some (Fv (.bool false)) = some F_ from hi)
                        clear hi hl
                        obtain ⟨x159, e159, rfl⟩ := hs 5 (by kernel_rfl) (Fv (.bool false)) rfl 159 rfl
                        obtain ⟨x175, e175, rfl⟩ := hs 21 (by kernel_rfl) (Fv (undef)) rfl 175 rfl
                        refine ⟨_, rfl, fun KR hKR => ?_⟩
                        rw [if_pos (show Region.wanted _ _ = true from rfl)]
                        clear hs ho
                        go_simp
                        exact hKR _ _ rfl (Below.refl _ _)
                    · intro vals_ W hv hB
                      have v0 : vals_ 0 = dp w1.heap.size := hv 0 _ rfl
                      have hp155 := hv 1 _ rfl
                      obtain ⟨y155, v1⟩ : ∃ y_, vals_ 1 = y_ := ⟨_, rfl⟩
                      rw [v1] at hp155
                      have v2 : vals_ 2 = .string (Go.strOfNums d'.snap) := hv 2 _ rfl
                      have v3 : vals_ 3 = .string (Go.strOfNums d.snap) := hv 3 _ rfl
                      have v4 : vals_ 4 = .bool false := hv 4 _ rfl
                      have v5 : vals_ 5 = .bool false := hv 5 _ rfl
                      have v6 : vals_ 6 = undef := hv 6 _ rfl
                      have v7 : vals_ 7 = undef := hv 7 _ rfl
                      have v8 : vals_ 8 = undef := hv 8 _ rfl
                      have v9 : vals_ 9 = undef := hv 9 _ rfl
                      have v10 : vals_ 10 = undef := hv 10 _ rfl
                      have v11 : vals_ 11 = undef := hv 11 _ rfl
                      have v12 : vals_ 12 = undef := hv 12 _ rfl
                      have v13 : vals_ 13 = undef := hv 13 _ rfl
                      have v14 : vals_ 14 = undef := hv 14 _ rfl
                      have v15 : vals_ 15 = undef := hv 15 _ rfl
                      have v16 : vals_ 16 = undef := hv 16 _ rfl
                      have v17 : vals_ 17 = undef := hv 17 _ rfl
                      have v18 : vals_ 18 = undef := hv 18 _ rfl
                      have v19 : vals_ 19 = undef := hv 19 _ rfl
                      have v20 : vals_ 20 = undef := hv 20 _ rfl
                      have v21 : vals_ 21 = undef := hv 21 _ rfl
                      have v22 : vals_ 22 = .bool false := hv 22 _ rfl
                      simp only [List.length_cons, List.length_nil, Nat.zero_add, Nat.reduceAdd, List.size_toArray, slots, if_true, dstOf, List.getElem?_toArray, List.getElem?_cons_zero, List.getElem?_cons_succ, Option.bind_some, Act.put, List.setIfInBounds_toArray, List.set_cons_zero, List.set_cons_succ, v0, v1, v2, v3, v4, v5, v6, v7, v8, v9, v10, v11, v12, v13, v14, v15, v16, v17, v18, v19, v20, v21, v22]
                      clear hv v0 v1 v2 v3 v4 v5 v6 v7 v8 v9 v10 v11 v12 v13 v14 v15 v16 v17 v18 v19 v20 v21 v22
                      change wpAny _ _ _ _ 0 _ _ _
                      refine wpAny_done (by kernel_rfl) ?_ _
                      go_wp2
                      refine ⟨⟨i + 1, d', _, _, by omega, by go_num, (hD'.out.below hB), hS2.out, bel hB'.out hB⟩, by simp [intOf]; omega⟩
                  · rcases hA'.out.snap with h | ⟨k2, hf0, hsn⟩
                    · exact absurd (by rw [h]; exact beq_self_eq_true _) hst
                    have hst := Bool.eq_false_iff.2 hst
                    have HSN := Lib.hid hsn
                    clear hsn
                    subst hf0
                    rw [k2] at hbox'
                    refine drawn_phi (w := wq) ([Fv (dp w1.heap.size), (fun v W => Slc W v d'.snap), Fv (.string (Go.strOfNums d'.snap)), Fv (.string (Go.strOfNums d.snap)), Fv (.bool true), Fv (.bool true), Fv (.pointer (some ⟨wr.heap.size, 0, none⟩)), Fv (.int .i64 2), Fv (.bool false), Fv (.bool false), Fv (.int .i64 0), Fv (.bool false), Fv (.bool false), Fv (.bool false), Fv (dp w1.heap.size), (fun v W => Slc W v d'.snap), Fv (.string (Go.strOfNums d'.snap)), Fv (.pointer (some ⟨wr.heap.size, 2, none⟩)), Fv (.slice A2 x.f2.length c2), Fv (.string (Go.strOfNums x.f2)), Fv (.bool false), Fv (.bool false), Fv (.bool false)] : List (Value → World → Prop)) (by kernel_rfl) (by kernel_rfl) (by kernel_rfl) ?_ ?_ ?_
                    · intro i_ F_ hi
                      have hl := (List.getElem?_eq_some_iff.1 hi).1
                      rcases (show i_ = 0 ∨ i_ = 1 ∨ i_ = 2 ∨ i_ = 3 ∨ i_ = 4 ∨ i_ = 5 ∨ i_ = 6 ∨ i_ = 7 ∨ i_ = 8 ∨ i_ = 9 ∨ i_ = 10 ∨ i_ = 11 ∨ i_ = 12 ∨ i_ = 13 ∨ i_ = 14 ∨ i_ = 15 ∨ i_ = 16 ∨ i_ = 17 ∨ i_ = 18 ∨ i_ = 19 ∨ i_ = 20 ∨ i_ = 21 ∨ i_ = 22 by simp at hl; omega) with rfl | rfl | rfl | rfl | rfl | rfl | rfl | rfl | rfl | rfl | rfl | rfl | rfl | rfl | rfl | rfl | rfl | rfl | rfl | rfl | rfl | rfl | rfl
                      · obtain rfl := Option.some.inj (show some (Fv (dp w1.heap.size)) = some F_ from hi)
                        exact mono_v _
                      · obtain rfl := Option.some.inj (show some ((fun v W => Slc W v d'.snap)) = some F_ from hi)
                        exact fun v W W1 h hb => Slc.below h hb
                      · obtain rfl := Option.some.inj (show some (Fv (.string (Go.strOfNums d'.snap))) = some F_ from hi)
                        exact mono_v _
                      · obtain rfl := Option.some.inj (show some (Fv (.string (Go.strOfNums d.snap))) = some F_ from hi)
                        exact mono_v _
                      · obtain rfl := Option.some.inj (show some (Fv (.bool true)) = some F_ from hi)
                        exact mono_v _
                      · obtain rfl := Option.some.inj (show some (Fv (.bool true)) = some F_ from hi)
                        exact mono_v _
                      · obtain rfl := Option.some.inj (show some (Fv (.pointer (some ⟨wr.heap.size, 0, none⟩))) = some F_ from hi)
                        exact mono_v _
                      · obtain rfl := Option.some.inj (show some (Fv (.int .i64 2)) = some F_ from hi)
                        exact mono_v _
                      · obtain rfl := Option.some.inj (show some (Fv (.bool false)) = some F_ from hi)
                        exact mono_v _
                      · obtain rfl := Option.some.inj (show some (Fv (.bool false)) = some F_ from hi)
                        exact mono_v _
                      · obtain rfl := Option.some.inj (show some (Fv (.int .i64 0)) = some F_ from hi)
                        exact mono_v _
                      · obtain rfl := Option.some.inj (show some (Fv (.bool false)) = some F_ from hi)
                        exact mono_v _
                      · obtain rfl := Option.some.inj (show some (Fv (.bool false)) = some F_ from hi)
                        exact mono_v _
                      · obtain rfl := Option.some.inj (show some (Fv (.bool false)) = some F_ from hi)
                        exact mono_v _
                      · obtain rfl := Option.some.inj (show some (Fv (dp w1.heap.size)) = some F_ from hi)
                        exact mono_v _
                      · obtain rfl := Option.some.inj (show some ((fun v W => Slc W v d'.snap)) = some F_ from hi)
                        exact fun v W W1 h hb => Slc.below h hb
                      · obtain rfl := Option.some.inj (show some (Fv (.string (Go.strOfNums d'.snap))) = some F_ from hi)
                        exact mono_v _
                      · obtain rfl := Option.some.inj (show some (Fv (.pointer (some ⟨wr.heap.size, 2, none⟩))) = some F_ from hi)
                        exact mono_v _
                      · obtain rfl := Option.some.inj (show some (Fv (.slice A2 x.f2.length c2)) = some F_ from hi)
                        exact mono_v _
                      · obtain rfl := Option.some.inj (show some (Fv (.string (Go.strOfNums x.f2))) = some F_ from hi)
                        exact mono_v _
                      · obtain rfl := Option.some.inj (show some (Fv (.bool false)) = some F_ from hi)
                        exact mono_v _
                      · obtain rfl := Option.some.inj (show some (Fv (.bool false)) = some F_ from hi)
                        exact mono_v _
                      · obtain rfl := Option.some.inj (show some (Fv (.bool false)) = some F_ from hi)
                        exact mono_v _
                    · intro i_ F_ hi a_ W hs ho hB
                      have hl := (List.getElem?_eq_some_iff.1 hi).1
                      rcases (show i_ = 0 ∨ i_ = 1 ∨ i_ = 2 ∨ i_ = 3 ∨ i_ = 4 ∨ i_ = 5 ∨ i_ = 6 ∨ i_ = 7 ∨ i_ = 8 ∨ i_ = 9 ∨ i_ = 10 ∨ i_ = 11 ∨ i_ = 12 ∨ i_ = 13 ∨ i_ = 14 ∨ i_ = 15 ∨ i_ = 16 ∨ i_ = 17 ∨ i_ = 18 ∨ i_ = 19 ∨ i_ = 20 ∨ i_ = 21 ∨ i_ = 22 by simp at hl; omega) with rfl | rfl | rfl | rfl | rfl | rfl | rfl | rfl | rfl | rfl | rfl | rfl | rfl | rfl | rfl | rfl | rfl | rfl | rfl | rfl | rfl | rfl | rfl
                      · obtain rfl := Option.some.inj (show some (Fv (dp w1.heap.size)) = some F_ from hi)
                        clear hi hl
                        have e3 : a_.tmps[3]? = some (dp w1.heap.size) := (ho 3 (by kernel_rfl)).trans rfl
                        refine ⟨_, rfl, fun KR hKR => ?_⟩
                        rw [if_pos (show Region.wanted _ _ = true from rfl)]
                        clear hs ho
                        go_simp
                        exact hKR _ _ rfl (Below.refl _ _)
                      · obtain rfl := Option.some.inj (show some ((fun v W => Slc W v d'.snap)) = some F_ from hi)
                        clear hi hl
                        obtain ⟨x154, e154, rfl⟩ := hs 0 (by kernel_rfl) (Fv (dp w1.heap.size)) rfl 154 rfl
                        refine ⟨_, rfl, fun KR hKR => ?_⟩
                        rw [if_pos (show Region.wanted _ _ = true from rfl)]
                        clear hs ho
                        (go_simp; (go_at_call 19; refine (snap_any _ d' _ _ _ (hD'.out.below hB) hr1' (by omega)).mono ?_; rintro e w9 ⟨v9, rfl, ho, hb⟩); exact hKR _ _ (Slc.own ho) hb)
                      · obtain rfl := Option.some.inj (show some (Fv (.string (Go.strOfNums d'.snap))) = some F_ from hi)
                        clear hi hl
                        obtain ⟨y155, e155, hp155⟩ := hs 1 (by kernel_rfl) (fun v W => Slc W v d'.snap) rfl 155 rfl
                        refine ⟨_, rfl, fun KR hKR => ?_⟩
                        rw [if_pos (show Region.wanted _ _ = true from rfl)]
                        clear hs ho
                        (obtain ⟨A9, a9, rfl, _, _, _, hr9, _⟩ := hp155; have E := Go.Proofs.YthodclhemleeaaaW.PrintWords.string_of_reads (P := Try.prog) (src := 31) (dst := 9) (c := a9) Try.underlying31 Try.underlying5 Try.underlying9 hr9; go_simp; exact hKR _ _ rfl (Below.refl _ _))
                      · obtain rfl := Option.some.inj (show some (Fv (.string (Go.strOfNums d.snap))) = some F_ from hi)
                        clear hi hl
                        have e9 : a_.tmps[9]? = some (.string (Go.strOfNums d.snap)) := (ho 9 (by kernel_rfl)).trans rfl
                        refine ⟨_, rfl, fun KR hKR => ?_⟩
                        rw [if_pos (show Region.wanted _ _ = true from rfl)]
                        clear hs ho
                        go_simp
                        exact hKR _ _ rfl (Below.refl _ _)
                      · obtain rfl := Option.some.inj (show some (Fv (.bool true)) = some F_ from hi)
                        clear hi hl
                        obtain ⟨x156, e156, rfl⟩ := hs 2 (by kernel_rfl) (Fv (.string (Go.strOfNums d'.snap))) rfl 156 rfl
                        obtain ⟨x157, e157, rfl⟩ := hs 3 (by kernel_rfl) (Fv (.string (Go.strOfNums d.snap))) rfl 157 rfl
                        refine ⟨_, rfl, fun KR hKR => ?_⟩
                        rw [if_pos (show Region.wanted _ _ = true from rfl)]
                        clear hs ho
                        go_simp
                        exact hKR _ _ rfl (Below.refl _ _)
                      · obtain rfl := Option.some.inj (show some (Fv (.bool true)) = some F_ from hi)
                        clear hi hl
                        obtain ⟨x158, e158, rfl⟩ := hs 4 (by kernel_rfl) (Fv (.bool true)) rfl 158 rfl
                        refine ⟨_, rfl, fun KR hKR => ?_⟩
                        rw [if_pos (show Region.wanted _ _ = true from rfl)]
                        clear hs ho
                        go_simp
                        exact hKR _ _ rfl (Below.refl _ _)
                      · obtain rfl := Option.some.inj (show some (Fv (.pointer (some ⟨wr.heap.size, 0, none⟩))) = some F_ from hi)
                        clear hi hl
                        have e6 : a_.tmps[6]? = some (.pointer (some ⟨wr.heap.size, 0, none⟩)) := (ho 6 (by kernel_rfl)).trans rfl
                        obtain ⟨x159, e159, rfl⟩ := hs 5 (by kernel_rfl) (Fv (.bool true)) rfl 159 rfl
                        refine ⟨_, rfl, fun KR hKR => ?_⟩
                        rw [if_pos (wanted_of (j := 5) (d := 159) rfl rfl e159)]
                        clear e159
                        clear hs ho
                        go_simp
                        exact hKR _ _ rfl (Below.refl _ _)
                      · obtain rfl := Option.some.inj (show some (Fv (.int .i64 2)) = some F_ from hi)
                        clear hi hl
                        obtain ⟨x160, e160, rfl⟩ := hs 6 (by kernel_rfl) (Fv (.pointer (some ⟨wr.heap.size, 0, none⟩))) rfl 160 rfl
                        obtain ⟨x159, e159, rfl⟩ := hs 5 (by kernel_rfl) (Fv (.bool true)) rfl 159 rfl
                        refine ⟨_, rfl, fun KR hKR => ?_⟩
                        rw [if_pos (wanted_of (j := 5) (d := 159) rfl rfl e159)]
                        clear e159
                        exact wp_load_cell 3 (.tmp 160) rfl wr.heap.size 0 (by simp [Act.eval, e160]) _ _ (0, 0) _ _ ((hB.block _ (heap_lt hbox')).trans hbox') rfl Try.underlying3 rfl (hKR _ _ rfl (Below.refl _ _))
                      · obtain rfl := Option.some.inj (show some (Fv (.bool false)) = some F_ from hi)
                        clear hi hl
                        obtain ⟨x161, e161, rfl⟩ := hs 7 (by kernel_rfl) (Fv (.int .i64 2)) rfl 161 rfl
                        obtain ⟨x159, e159, rfl⟩ := hs 5 (by kernel_rfl) (Fv (.bool true)) rfl 159 rfl
                        refine ⟨_, rfl, fun KR hKR => ?_⟩
                        rw [if_pos (wanted_of (j := 5) (d := 159) rfl rfl e159)]
                        clear e159
                        clear hs ho
                        go_simp
                        exact hKR _ _ rfl (Below.refl _ _)
                      · obtain rfl := Option.some.inj (show some (Fv (.bool false)) = some F_ from hi)
                        clear hi hl
                        obtain ⟨x162, e162, rfl⟩ := hs 8 (by kernel_rfl) (Fv (.bool false)) rfl 162 rfl
                        obtain ⟨x159, e159, rfl⟩ := hs 5 (by kernel_rfl) (Fv (.bool true)) rfl 159 rfl
                        refine ⟨_, rfl, fun KR hKR => ?_⟩
                        rw [if_pos (wanted_of (j := 5) (d := 159) rfl rfl e159)]
                        clear e159
                        clear hs ho
                        go_simp
                        exact hKR _ _ rfl (Below.refl _ _)
                      · obtain rfl := Option.some.inj (show some (Fv (.int .i64 0)) = some F_ from hi)
                        clear hi hl
                        have e10 : a_.tmps[10]? = some (.int .i64 0) := (ho 10 (by kernel_rfl)).trans rfl
                        obtain ⟨x163, e163, rfl⟩ := hs 9 (by kernel_rfl) (Fv (.bool false)) rfl 163 rfl
                        refine ⟨_, rfl, fun KR hKR => ?_⟩
                        rw [if_pos (wanted_of (j := 9) (d := 163) rfl rfl e163)]
                        clear e163
                        clear hs ho
                        go_simp
                        exact hKR _ _ rfl (Below.refl _ _)
                      · obtain rfl := Option.some.inj (show some (Fv (.bool false)) = some F_ from hi)
                        clear hi hl
                        obtain ⟨x164, e164, rfl⟩ := hs 10 (by kernel_rfl) (Fv (.int .i64 0)) rfl 164 rfl
                        obtain ⟨x163, e163, rfl⟩ := hs 9 (by kernel_rfl) (Fv (.bool false)) rfl 163 rfl
                        refine ⟨_, rfl, fun KR hKR => ?_⟩
                        rw [if_pos (wanted_of (j := 9) (d := 163) rfl rfl e163)]
                        clear e163
                        clear hs ho
                        go_simp
                        exact hKR _ _ rfl (Below.refl _ _)
                      · obtain rfl := Option.some.inj (show some (Fv (.bool false)) = some F_ from hi)
                        clear hi hl
                        obtain ⟨x163, e163, rfl⟩ := hs 9 (by kernel_rfl) (Fv (.bool false)) rfl 163 rfl
                        obtain ⟨x165, e165, rfl⟩ := hs 11 (by kernel_rfl) (Fv (.bool false)) rfl 165 rfl
                        obtain ⟨x159, e159, rfl⟩ := hs 5 (by kernel_rfl) (Fv (.bool true)) rfl 159 rfl
                        refine ⟨_, rfl, fun KR hKR => ?_⟩
                        rw [if_pos (wanted_of (j := 5) (d := 159) rfl rfl e159)]
                        clear e159
                        clear hs ho
                        go_simp
                        exact hKR _ _ rfl (Below.refl _ _)
                      · obtain rfl := Option.some.inj (show some (Fv (.bool false)) = some F_ from hi)
                        clear hi hl
                        obtain ⟨x166, e166, rfl⟩ := hs 12 (by kernel_rfl) (Fv (.bool false)) rfl 166 rfl
                        obtain ⟨x159, e159, rfl⟩ := hs 5 (by kernel_rfl) (Fv (.bool true)) rfl 159 rfl
                        refine ⟨_, rfl, fun KR hKR => ?_⟩
                        rw [if_pos (wanted_of (j := 5) (d := 159) rfl rfl e159)]
                        clear e159
                        clear hs ho
                        go_simp
                        exact hKR _ _ rfl (Below.refl _ _)
                      · obtain rfl := Option.some.inj (show some (Fv (dp w1.heap.size)) = some F_ from hi)
                        clear hi hl
                        have e3 : a_.tmps[3]? = some (dp w1.heap.size) := (ho 3 (by kernel_rfl)).trans rfl
                        obtain ⟨x167, e167, rfl⟩ := hs 13 (by kernel_rfl) (Fv (.bool false)) rfl 167 rfl
                        refine ⟨_, rfl, fun KR hKR => ?_⟩
                        rw [if_pos (wanted_of (j := 13) (d := 167) rfl rfl e167)]
                        clear e167
                        clear hs ho
                        go_simp
                        exact hKR _ _ rfl (Below.refl _ _)
                      · obtain rfl := Option.some.inj (show some ((fun v W => Slc W v d'.snap)) = some F_ from hi)
                        clear hi hl
                        obtain ⟨x168, e168, rfl⟩ := hs 14 (by kernel_rfl) (Fv (dp w1.heap.size)) rfl 168 rfl
                        obtain ⟨x167, e167, rfl⟩ := hs 13 (by kernel_rfl) (Fv (.bool false)) rfl 167 rfl
                        refine ⟨_, rfl, fun KR hKR => ?_⟩
                        rw [if_pos (wanted_of (j := 13) (d := 167) rfl rfl e167)]
                        clear e167
                        clear hs ho
                        (go_simp; (go_at_call 19; refine (snap_any _ d' _ _ _ (hD'.out.below hB) hr1' (by omega)).mono ?_; rintro e w9 ⟨v9, rfl, ho, hb⟩); exact hKR _ _ (Slc.own ho) hb)
                      · obtain rfl := Option.some.inj (show some (Fv (.string (Go.strOfNums d'.snap))) = some F_ from hi)
                        clear hi hl
                        obtain ⟨y169, e169, hp169⟩ := hs 15 (by kernel_rfl) (fun v W => Slc W v d'.snap) rfl 169 rfl
                        obtain ⟨x167, e167, rfl⟩ := hs 13 (by kernel_rfl) (Fv (.bool false)) rfl 167 rfl
                        refine ⟨_, rfl, fun KR hKR => ?_⟩
                        rw [if_pos (wanted_of (j := 13) (d := 167) rfl rfl e167)]
                        clear e167
                        clear hs ho
                        (obtain ⟨A9, a9, rfl, _, _, _, hr9, _⟩ := hp169; have E := Go.Proofs.YthodclhemleeaaaW.PrintWords.string_of_reads (P := Try.prog) (src := 31) (dst := 9) (c := a9) Try.underlying31 Try.underlying5 Try.underlying9 hr9; go_simp; exact hKR _ _ rfl (Below.refl _ _))
                      · obtain rfl := Option.some.inj (show some (Fv (.pointer (some ⟨wr.heap.size, 2, none⟩))) = some F_ from hi)
                        clear hi hl
                        have e6 : a_.tmps[6]? = some (.pointer (some ⟨wr.heap.size, 0, none⟩)) := (ho 6 (by kernel_rfl)).trans rfl
                        obtain ⟨x167, e167, rfl⟩ := hs 13 (by kernel_rfl) (Fv (.bool false)) rfl 167 rfl
                        refine ⟨_, rfl, fun KR hKR => ?_⟩
                        rw [if_pos (wanted_of (j := 13) (d := 167) rfl rfl e167)]
                        clear e167
                        clear hs ho
                        go_simp
                        exact hKR _ _ rfl (Below.refl _ _)
                      · obtain rfl := Option.some.inj (show some (Fv (.slice A2 x.f2.length c2)) = some F_ from hi)
                        clear hi hl
                        obtain ⟨x171, e171, rfl⟩ := hs 17 (by kernel_rfl) (Fv (.pointer (some ⟨wr.heap.size, 2, none⟩))) rfl 171 rfl
                        obtain ⟨x167, e167, rfl⟩ := hs 13 (by kernel_rfl) (Fv (.bool false)) rfl 167 rfl
                        refine ⟨_, rfl, fun KR hKR => ?_⟩
                        rw [if_pos (wanted_of (j := 13) (d := 167) rfl rfl e167)]
                        clear e167
                        exact wp_load_cell 31 (.tmp 171) rfl wr.heap.size 2 (by simp [Act.eval, e171]) _ _ (0, 0) _ _ ((hB.block _ (heap_lt hbox')).trans hbox') rfl Try.underlying31 rfl (hKR _ _ rfl (Below.refl _ _))
                      · obtain rfl := Option.some.inj (show some (Fv (.string (Go.strOfNums x.f2))) = some F_ from hi)
                        clear hi hl
                        obtain ⟨x172, e172, rfl⟩ := hs 18 (by kernel_rfl) (Fv (.slice A2 x.f2.length c2)) rfl 172 rfl
                        obtain ⟨x167, e167, rfl⟩ := hs 13 (by kernel_rfl) (Fv (.bool false)) rfl 167 rfl
                        refine ⟨_, rfl, fun KR hKR => ?_⟩
                        rw [if_pos (wanted_of (j := 13) (d := 167) rfl rfl e167)]
                        clear e167
                        clear hs ho
                        (have E := Go.Proofs.YthodclhemleeaaaW.PrintWords.string_of_reads (P := Try.prog) (src := 31) (dst := 9) (c := c2) Try.underlying31 Try.underlying5 Try.underlying9 (hS'.out.below hB).reads; go_simp; exact hKR _ _ rfl (Below.refl _ _))
                      · obtain rfl := Option.some.inj (show some (Fv (.bool false)) = some F_ from hi)
                        clear hi hl
                        obtain ⟨x170, e170, rfl⟩ := hs 16 (by kernel_rfl) (Fv (.string (Go.strOfNums d'.snap))) rfl 170 rfl
                        obtain ⟨x173, e173, rfl⟩ := hs 19 (by kernel_rfl) (Fv (.string (Go.strOfNums x.f2))) rfl 173 rfl
                        obtain ⟨x167, e167, rfl⟩ := hs 13 (by kernel_rfl) (Fv (.bool false)) rfl 167 rfl
                        refine ⟨_, rfl, fun KR hKR => ?_⟩
                        rw [if_pos (wanted_of (j := 13) (d := 167) rfl rfl e167)]
                        clear e167
                        clear hs ho
                        (go_simp; rw [show ((Go.strOfNums d'.snap).toList == (Go.strOfNums x.f2).toList) = true from by rw [HSN.out]; exact beq_self_eq_true _]; exact hKR _ _ rfl (Below.refl _ _))
                      · obtain rfl := Option.some.inj (show some (Fv (.bool false)) = some F_ from hi)
                        clear hi hl
                        obtain ⟨x167, e167, rfl⟩ := hs 13 (by kernel_rfl) (Fv (.bool false)) rfl 167 rfl
                        obtain ⟨x174, e174, rfl⟩ := hs 20 (by kernel_rfl) (Fv (.bool false)) rfl 174 rfl
                        obtain ⟨x159, e159, rfl⟩ := hs 5 (by kernel_rfl) (Fv (.bool true)) rfl 159 rfl
                        refine ⟨_, rfl, fun KR hKR => ?_⟩
                        rw [if_pos (wanted_of (j := 5) (d := 159) rfl rfl e159)]
                        clear e159
                        clear hs ho
                        go_simp
                        exact hKR _ _ rfl (Below.refl _ _)
                      · obtain rfl := Option.some.inj (show some (Fv (.bool false)) = some F_ from hi)
                        clear hi hl
                        obtain ⟨x159, e159, rfl⟩ := hs 5 (by kernel_rfl) (Fv (.bool true)) rfl 159 rfl
                        obtain ⟨x175, e175, rfl⟩ := hs 21 (by kernel_rfl) (Fv (.bool false)) rfl 175 rfl
                        refine ⟨_, rfl, fun KR hKR => ?_⟩
                        rw [if_pos (show Region.wanted _ _ = true from rfl)]
                        clear hs ho
                        go_simp
                        exact hKR _ _ rfl (Below.refl _ _)
                    · intro vals_ W hv hB
                      have v0 : vals_ 0 = dp w1.heap.size := hv 0 _ rfl
                      have hp155 := hv 1 _ rfl
                      obtain ⟨y155, v1⟩ : ∃ y_, vals_ 1 = y_ := ⟨_, rfl⟩
                      rw [v1] at hp155
                      have v2 : vals_ 2 = .string (Go.strOfNums d'.snap) := hv 2 _ rfl
                      have v3 : vals_ 3 = .string (Go.strOfNums d.snap) := hv 3 _ rfl
                      have v4 : vals_ 4 = .bool true := hv 4 _ rfl
                      have v5 : vals_ 5 = .bool true := hv 5 _ rfl
                      have v6 : vals_ 6 = .pointer (some ⟨wr.heap.size, 0, none⟩) := hv 6 _ rfl
                      have v7 : vals_ 7 = .int .i64 2 := hv 7 _ rfl
                      have v8 : vals_ 8 = .bool false := hv 8 _ rfl
                      have v9 : vals_ 9 = .bool false := hv 9 _ rfl
                      have v10 : vals_ 10 = .int .i64 0 := hv 10 _ rfl
                      have v11 : vals_ 11 = .bool false := hv 11 _ rfl
                      have v12 : vals_ 12 = .bool false := hv 12 _ rfl
                      have v13 : vals_ 13 = .bool false := hv 13 _ rfl
                      have v14 : vals_ 14 = dp w1.heap.size := hv 14 _ rfl
                      have hp169 := hv 15 _ rfl
                      obtain ⟨y169, v15⟩ : ∃ y_, vals_ 15 = y_ := ⟨_, rfl⟩
                      rw [v15] at hp169
                      have v16 : vals_ 16 = .string (Go.strOfNums d'.snap) := hv 16 _ rfl
                      have v17 : vals_ 17 = .pointer (some ⟨wr.heap.size, 2, none⟩) := hv 17 _ rfl
                      have v18 : vals_ 18 = .slice A2 x.f2.length c2 := hv 18 _ rfl
                      have v19 : vals_ 19 = .string (Go.strOfNums x.f2) := hv 19 _ rfl
                      have v20 : vals_ 20 = .bool false := hv 20 _ rfl
                      have v21 : vals_ 21 = .bool false := hv 21 _ rfl
                      have v22 : vals_ 22 = .bool false := hv 22 _ rfl
                      simp only [List.length_cons, List.length_nil, Nat.zero_add, Nat.reduceAdd, List.size_toArray, slots, if_true, dstOf, List.getElem?_toArray, List.getElem?_cons_zero, List.getElem?_cons_succ, Option.bind_some, Act.put, List.setIfInBounds_toArray, List.set_cons_zero, List.set_cons_succ, v0, v1, v2, v3, v4, v5, v6, v7, v8, v9, v10, v11, v12, v13, v14, v15, v16, v17, v18, v19, v20, v21, v22]
                      clear hv v0 v1 v2 v3 v4 v5 v6 v7 v8 v9 v10 v11 v12 v13 v14 v15 v16 v17 v18 v19 v20 v21 v22
                      change wpAny _ _ _ _ 0 _ _ _
                      refine wpAny_done (by kernel_rfl) ?_ _
                      go_wp2
                      refine ⟨⟨i + 1, d', _, _, by omega, by go_num, (hD'.out.below hB), hS2.out, bel hB'.out hB⟩, by simp [intOf]; omega⟩
      · have hie : i = xs.length := by omega
        subst hie
        have hB := Lib.hid hB
        clear hD hF
        go_wp2
        go_ret
        exact ⟨rfl, hB.out⟩
end Go.Proofs.Ythodclhemleeaaa
