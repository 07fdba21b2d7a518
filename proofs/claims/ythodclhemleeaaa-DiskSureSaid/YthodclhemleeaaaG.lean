/- Walks of disk's Crash and New. -/
import Derived.Test.YthodclhemleeaaaF
set_option linter.unusedVariables false
set_option linter.unusedSimpArgs false
namespace Go.Proofs.Ythodclhemleeaaa
open Go.RowKit
open Go.Proofs.YthodclhemleeaaaW.PrintWords (nums ReadsInt own_reads own_reads' nums_length print_append_row own_nil)
attribute [local go_sem] max2_int min2_int max_two min_two
def crashN (d : Dsk) (n : Int) : Int := d.sure + min (max n 0) (d.log.length - d.sure)
def crashD (d : Dsk) (n : Int) : Dsk := { d with log := d.log.take (crashN d n).toNat, sure := crashN d n, fuse := -1, off := false }
def newD (room : Int) : Dsk := ⟨[], [], 0, room, -1, false⟩
theorem crash_dead (p : Value) (n : Int) (w : World) (h : Dead w p) : Calls Try.prog 20 #[p, .int .i64 n] w fun e w' => e = .returned (.tuple #[]) ∧ w = w' := by
  go_enter Try.func20, Try.ntmps20
  go_wp2_with (go_at_call 25; refine (none_dead _ _ h).mono ?_; rintro e w1 ⟨rfl, rfl⟩)
  refine bodyPost_ret (v := .tuple #[]) (by simp [results, Try.results20, go_sem, *]) rfl ?_
  exact ⟨rfl, rfl⟩
set_option maxRecDepth 100000 in
set_option maxHeartbeats 4000000 in
theorem crash_any (g : Nat) (d : Dsk) (lv sv : Value) (n : Int) (w : World) (h : DiskAt w g d lv sv) (hk : Ok d) (hn0 : -9223372036854775808 ≤ n) (hn1 : n ≤ 9223372036854775807) :
    Calls Try.prog 20 #[dp g, .int .i64 n] w fun e w' => e = .returned (.tuple #[]) ∧ (∃ lv sv, DiskAt w' g (crashD d n) lv sv) ∧ Only g w w' := by
  have q0 := hk.sure0
  have q1 := hk.sure1
  have q2 := hk.room0
  have q3 := hk.room1
  have q4 := hk.full
  obtain ⟨k, hkn⟩ : ∃ k : Nat, crashN d n = k := ⟨(crashN d n).toNat, by unfold crashN; omega⟩
  have hkl : k ≤ d.log.length := by unfold crashN at hkn; omega
  have hcd : crashD d n = { d with log := d.log.take k, sure := k, fuse := -1, off := false } := by unfold crashD; rw [hkn]; rfl
  obtain ⟨v', hcut, hsl, A', rfl⟩ := h.log.cut k hkl
  obtain ⟨A, a, rfl, hl1, hl2, hl3, hl4, hl5⟩ := id h.log
  have hD := h.blk
  have hg := heap_lt h.blk
  rw [hcd]
  clear hl3 hl4 hl5 hcd
  go_enter Try.func20, Try.ntmps20
  go_wp2_with (go_at_call 25; refine (none_no _ _ _ _ _ h hk.room0).mono ?_; rintro e w1 ⟨rfl, rfl⟩)
  refine drawn_phi (w := w) ([Fv (dp g), Fv (dp g), Fv (.pointer (some ⟨g, 2, none⟩)), Fv (.int .i64 d.sure), Fv (.int .i64 n), Fv (.int .i64 (max n 0)), Fv (dp g), Fv (dp g), Fv (.pointer (some ⟨g, 0, none⟩)), Fv ((.slice A d.log.length a)), Fv (.int .i64 d.log.length), Fv (dp g), Fv (dp g), Fv (.pointer (some ⟨g, 2, none⟩)), Fv (.int .i64 d.sure), Fv (.int .i64 ((d.log.length : Int) - d.sure)), Fv (.int .i64 (min (max n 0) ((d.log.length : Int) - d.sure))), Fv (.int .i64 (k : Int)), Fv (.int .i64 (k : Int))] : List (Value → World → Prop)) (by kernel_rfl) (by kernel_rfl) (by kernel_rfl) ?_ ?_ ?_
  · intro i_ F_ hi
    have hl := (List.getElem?_eq_some_iff.1 hi).1
    rcases (show i_ = 0 ∨ i_ = 1 ∨ i_ = 2 ∨ i_ = 3 ∨ i_ = 4 ∨ i_ = 5 ∨ i_ = 6 ∨ i_ = 7 ∨ i_ = 8 ∨ i_ = 9 ∨ i_ = 10 ∨ i_ = 11 ∨ i_ = 12 ∨ i_ = 13 ∨ i_ = 14 ∨ i_ = 15 ∨ i_ = 16 ∨ i_ = 17 ∨ i_ = 18 by simp at hl; omega) with rfl | rfl | rfl | rfl | rfl | rfl | rfl | rfl | rfl | rfl | rfl | rfl | rfl | rfl | rfl | rfl | rfl | rfl | rfl
    · obtain rfl := Option.some.inj (show some (Fv (dp g)) = some F_ from hi)
      exact mono_v _
    · obtain rfl := Option.some.inj (show some (Fv (dp g)) = some F_ from hi)
      exact mono_v _
    · obtain rfl := Option.some.inj (show some (Fv (.pointer (some ⟨g, 2, none⟩))) = some F_ from hi)
      exact mono_v _
    · obtain rfl := Option.some.inj (show some (Fv (.int .i64 d.sure)) = some F_ from hi)
      exact mono_v _
    · obtain rfl := Option.some.inj (show some (Fv (.int .i64 n)) = some F_ from hi)
      exact mono_v _
    · obtain rfl := Option.some.inj (show some (Fv (.int .i64 (max n 0))) = some F_ from hi)
      exact mono_v _
    · obtain rfl := Option.some.inj (show some (Fv (dp g)) = some F_ from hi)
      exact mono_v _
    · obtain rfl := Option.some.inj (show some (Fv (dp g)) = some F_ from hi)
      exact mono_v _
    · obtain rfl := Option.some.inj (show some (Fv (.pointer (some ⟨g, 0, none⟩))) = some F_ from hi)
      exact mono_v _
    · obtain rfl := Option.some.inj (show some (Fv ((.slice A d.log.length a))) = some F_ from hi)
      exact mono_v _
    · obtain rfl := Option.some.inj (show some (Fv (.int .i64 d.log.length)) = some F_ from hi)
      exact mono_v _
    · obtain rfl := Option.some.inj (show some (Fv (dp g)) = some F_ from hi)
      exact mono_v _
    · obtain rfl := Option.some.inj (show some (Fv (dp g)) = some F_ from hi)
      exact mono_v _
    · obtain rfl := Option.some.inj (show some (Fv (.pointer (some ⟨g, 2, none⟩))) = some F_ from hi)
      exact mono_v _
    · obtain rfl := Option.some.inj (show some (Fv (.int .i64 d.sure)) = some F_ from hi)
      exact mono_v _
    · obtain rfl := Option.some.inj (show some (Fv (.int .i64 ((d.log.length : Int) - d.sure))) = some F_ from hi)
      exact mono_v _
    · obtain rfl := Option.some.inj (show some (Fv (.int .i64 (min (max n 0) ((d.log.length : Int) - d.sure)))) = some F_ from hi)
      exact mono_v _
    · obtain rfl := Option.some.inj (show some (Fv (.int .i64 (k : Int))) = some F_ from hi)
      exact mono_v _
    · obtain rfl := Option.some.inj (show some (Fv (.int .i64 (k : Int))) = some F_ from hi)
      exact mono_v _
  · intro i_ F_ hi a_ W hs ho hB
    have hl := (List.getElem?_eq_some_iff.1 hi).1
    rcases (show i_ = 0 ∨ i_ = 1 ∨ i_ = 2 ∨ i_ = 3 ∨ i_ = 4 ∨ i_ = 5 ∨ i_ = 6 ∨ i_ = 7 ∨ i_ = 8 ∨ i_ = 9 ∨ i_ = 10 ∨ i_ = 11 ∨ i_ = 12 ∨ i_ = 13 ∨ i_ = 14 ∨ i_ = 15 ∨ i_ = 16 ∨ i_ = 17 ∨ i_ = 18 by simp at hl; omega) with rfl | rfl | rfl | rfl | rfl | rfl | rfl | rfl | rfl | rfl | rfl | rfl | rfl | rfl | rfl | rfl | rfl | rfl | rfl
    · obtain rfl := Option.some.inj (show some (Fv (dp g)) = some F_ from hi)
      clear hi hl
      have e0 : a_.tmps[0]? = some (dp g) := (ho 0 (by kernel_rfl)).trans rfl
      refine ⟨_, rfl, fun KR hKR => ?_⟩
      rw [if_pos (show Region.wanted _ _ = true from rfl)]
      clear hs ho
      go_simp
      exact hKR _ _ rfl (Below.refl _ _)
    · obtain rfl := Option.some.inj (show some (Fv (dp g)) = some F_ from hi)
      clear hi hl
      obtain ⟨x7, e7, rfl⟩ := hs 0 (by kernel_rfl) (Fv (dp g)) rfl 7 rfl
      refine ⟨_, rfl, fun KR hKR => ?_⟩
      rw [if_pos (show Region.wanted _ _ = true from rfl)]
      clear hs ho
      go_simp
      exact hKR _ _ rfl (Below.refl _ _)
    · obtain rfl := Option.some.inj (show some (Fv (.pointer (some ⟨g, 2, none⟩))) = some F_ from hi)
      clear hi hl
      obtain ⟨x8, e8, rfl⟩ := hs 1 (by kernel_rfl) (Fv (dp g)) rfl 8 rfl
      refine ⟨_, rfl, fun KR hKR => ?_⟩
      rw [if_pos (show Region.wanted _ _ = true from rfl)]
      clear hs ho
      go_simp
      exact hKR _ _ rfl (Below.refl _ _)
    · obtain rfl := Option.some.inj (show some (Fv (.int .i64 d.sure)) = some F_ from hi)
      clear hi hl
      obtain ⟨x9, e9, rfl⟩ := hs 2 (by kernel_rfl) (Fv (.pointer (some ⟨g, 2, none⟩))) rfl 9 rfl
      refine ⟨_, rfl, fun KR hKR => ?_⟩
      rw [if_pos (show Region.wanted _ _ = true from rfl)]
      exact wp_load_cell 3 (.tmp 9) rfl g 2 (by simp [Act.eval, e9]) _ _ (0, 0) _ _ ((hB.block _ (heap_lt hD)).trans hD) rfl Try.underlying3 rfl (hKR _ _ rfl (Below.refl _ _))
    · obtain rfl := Option.some.inj (show some (Fv (.int .i64 n)) = some F_ from hi)
      clear hi hl
      have e1 : a_.tmps[1]? = some (.int .i64 n) := (ho 1 (by kernel_rfl)).trans rfl
      refine ⟨_, rfl, fun KR hKR => ?_⟩
      rw [if_pos (show Region.wanted _ _ = true from rfl)]
      clear hs ho
      go_simp
      exact hKR _ _ rfl (Below.refl _ _)
    · obtain rfl := Option.some.inj (show some (Fv (.int .i64 (max n 0))) = some F_ from hi)
      clear hi hl
      obtain ⟨x11, e11, rfl⟩ := hs 4 (by kernel_rfl) (Fv (.int .i64 n)) rfl 11 rfl
      refine ⟨_, rfl, fun KR hKR => ?_⟩
      rw [if_pos (show Region.wanted _ _ = true from rfl)]
      clear hs ho
      go_simp
      exact hKR _ _ rfl (Below.refl _ _)
    · obtain rfl := Option.some.inj (show some (Fv (dp g)) = some F_ from hi)
      clear hi hl
      have e0 : a_.tmps[0]? = some (dp g) := (ho 0 (by kernel_rfl)).trans rfl
      refine ⟨_, rfl, fun KR hKR => ?_⟩
      rw [if_pos (show Region.wanted _ _ = true from rfl)]
      clear hs ho
      go_simp
      exact hKR _ _ rfl (Below.refl _ _)
    · obtain rfl := Option.some.inj (show some (Fv (dp g)) = some F_ from hi)
      clear hi hl
      obtain ⟨x13, e13, rfl⟩ := hs 6 (by kernel_rfl) (Fv (dp g)) rfl 13 rfl
      refine ⟨_, rfl, fun KR hKR => ?_⟩
      rw [if_pos (show Region.wanted _ _ = true from rfl)]
      clear hs ho
      go_simp
      exact hKR _ _ rfl (Below.refl _ _)
    · obtain rfl := Option.some.inj (show some (Fv (.pointer (some ⟨g, 0, none⟩))) = some F_ from hi)
      clear hi hl
      obtain ⟨x14, e14, rfl⟩ := hs 7 (by kernel_rfl) (Fv (dp g)) rfl 14 rfl
      refine ⟨_, rfl, fun KR hKR => ?_⟩
      rw [if_pos (show Region.wanted _ _ = true from rfl)]
      clear hs ho
      go_simp
      exact hKR _ _ rfl (Below.refl _ _)
    · obtain rfl := Option.some.inj (show some (Fv ((.slice A d.log.length a))) = some F_ from hi)
      clear hi hl
      obtain ⟨x15, e15, rfl⟩ := hs 8 (by kernel_rfl) (Fv (.pointer (some ⟨g, 0, none⟩))) rfl 15 rfl
      refine ⟨_, rfl, fun KR hKR => ?_⟩
      rw [if_pos (show Region.wanted _ _ = true from rfl)]
      exact wp_load_cell 31 (.tmp 15) rfl g 0 (by simp [Act.eval, e15]) _ _ (0, 0) _ _ ((hB.block _ (heap_lt hD)).trans hD) rfl Try.underlying31 rfl (hKR _ _ rfl (Below.refl _ _))
    · obtain rfl := Option.some.inj (show some (Fv (.int .i64 d.log.length)) = some F_ from hi)
      clear hi hl
      obtain ⟨x16, e16, rfl⟩ := hs 9 (by kernel_rfl) (Fv ((.slice A d.log.length a))) rfl 16 rfl
      refine ⟨_, rfl, fun KR hKR => ?_⟩
      rw [if_pos (show Region.wanted _ _ = true from rfl)]
      clear hs ho
      go_simp
      exact hKR _ _ rfl (Below.refl _ _)
    · obtain rfl := Option.some.inj (show some (Fv (dp g)) = some F_ from hi)
      clear hi hl
      have e0 : a_.tmps[0]? = some (dp g) := (ho 0 (by kernel_rfl)).trans rfl
      refine ⟨_, rfl, fun KR hKR => ?_⟩
      rw [if_pos (show Region.wanted _ _ = true from rfl)]
      clear hs ho
      go_simp
      exact hKR _ _ rfl (Below.refl _ _)
    · obtain rfl := Option.some.inj (show some (Fv (dp g)) = some F_ from hi)
      clear hi hl
      obtain ⟨x18, e18, rfl⟩ := hs 11 (by kernel_rfl) (Fv (dp g)) rfl 18 rfl
      refine ⟨_, rfl, fun KR hKR => ?_⟩
      rw [if_pos (show Region.wanted _ _ = true from rfl)]
      clear hs ho
      go_simp
      exact hKR _ _ rfl (Below.refl _ _)
    · obtain rfl := Option.some.inj (show some (Fv (.pointer (some ⟨g, 2, none⟩))) = some F_ from hi)
      clear hi hl
      obtain ⟨x19, e19, rfl⟩ := hs 12 (by kernel_rfl) (Fv (dp g)) rfl 19 rfl
      refine ⟨_, rfl, fun KR hKR => ?_⟩
      rw [if_pos (show Region.wanted _ _ = true from rfl)]
      clear hs ho
      go_simp
      exact hKR _ _ rfl (Below.refl _ _)
    · obtain rfl := Option.some.inj (show some (Fv (.int .i64 d.sure)) = some F_ from hi)
      clear hi hl
      obtain ⟨x20, e20, rfl⟩ := hs 13 (by kernel_rfl) (Fv (.pointer (some ⟨g, 2, none⟩))) rfl 20 rfl
      refine ⟨_, rfl, fun KR hKR => ?_⟩
      rw [if_pos (show Region.wanted _ _ = true from rfl)]
      exact wp_load_cell 3 (.tmp 20) rfl g 2 (by simp [Act.eval, e20]) _ _ (0, 0) _ _ ((hB.block _ (heap_lt hD)).trans hD) rfl Try.underlying3 rfl (hKR _ _ rfl (Below.refl _ _))
    · obtain rfl := Option.some.inj (show some (Fv (.int .i64 ((d.log.length : Int) - d.sure))) = some F_ from hi)
      clear hi hl
      obtain ⟨x17, e17, rfl⟩ := hs 10 (by kernel_rfl) (Fv (.int .i64 d.log.length)) rfl 17 rfl
      obtain ⟨x21, e21, rfl⟩ := hs 14 (by kernel_rfl) (Fv (.int .i64 d.sure)) rfl 21 rfl
      refine ⟨_, rfl, fun KR hKR => ?_⟩
      rw [if_pos (show Region.wanted _ _ = true from rfl)]
      clear hs ho
      (go_simp; rw [show IntKind.i64.wrap ((d.log.length : Int) - d.sure) = (d.log.length : Int) - d.sure from w_in (by omega) (by omega)]; exact hKR _ _ rfl (Below.refl _ _))
    · obtain rfl := Option.some.inj (show some (Fv (.int .i64 (min (max n 0) ((d.log.length : Int) - d.sure)))) = some F_ from hi)
      clear hi hl
      obtain ⟨x12, e12, rfl⟩ := hs 5 (by kernel_rfl) (Fv (.int .i64 (max n 0))) rfl 12 rfl
      obtain ⟨x22, e22, rfl⟩ := hs 15 (by kernel_rfl) (Fv (.int .i64 ((d.log.length : Int) - d.sure))) rfl 22 rfl
      refine ⟨_, rfl, fun KR hKR => ?_⟩
      rw [if_pos (show Region.wanted _ _ = true from rfl)]
      clear hs ho
      go_simp
      exact hKR _ _ rfl (Below.refl _ _)
    · obtain rfl := Option.some.inj (show some (Fv (.int .i64 (k : Int))) = some F_ from hi)
      clear hi hl
      obtain ⟨x10, e10, rfl⟩ := hs 3 (by kernel_rfl) (Fv (.int .i64 d.sure)) rfl 10 rfl
      obtain ⟨x23, e23, rfl⟩ := hs 16 (by kernel_rfl) (Fv (.int .i64 (min (max n 0) ((d.log.length : Int) - d.sure)))) rfl 23 rfl
      refine ⟨_, rfl, fun KR hKR => ?_⟩
      rw [if_pos (show Region.wanted _ _ = true from rfl)]
      clear hs ho
      (go_simp; rw [show d.sure + min (max n 0) ((d.log.length : Int) - d.sure) = (k : Int) from hkn, show IntKind.i64.wrap (k : Int) = (k : Int) from w_in (by omega) (by omega)]; exact hKR _ _ rfl (Below.refl _ _))
    · obtain rfl := Option.some.inj (show some (Fv (.int .i64 (k : Int))) = some F_ from hi)
      clear hi hl
      obtain ⟨x24, e24, rfl⟩ := hs 17 (by kernel_rfl) (Fv (.int .i64 (k : Int))) rfl 24 rfl
      refine ⟨_, rfl, fun KR hKR => ?_⟩
      rw [if_pos (show Region.wanted _ _ = true from rfl)]
      clear hs ho
      go_simp
      exact hKR _ _ rfl (Below.refl _ _)
  · intro vals_ W hv hB
    have v0 : vals_ 0 = dp g := hv 0 _ rfl
    have v1 : vals_ 1 = dp g := hv 1 _ rfl
    have v2 : vals_ 2 = .pointer (some ⟨g, 2, none⟩) := hv 2 _ rfl
    have v3 : vals_ 3 = .int .i64 d.sure := hv 3 _ rfl
    have v4 : vals_ 4 = .int .i64 n := hv 4 _ rfl
    have v5 : vals_ 5 = .int .i64 (max n 0) := hv 5 _ rfl
    have v6 : vals_ 6 = dp g := hv 6 _ rfl
    have v7 : vals_ 7 = dp g := hv 7 _ rfl
    have v8 : vals_ 8 = .pointer (some ⟨g, 0, none⟩) := hv 8 _ rfl
    have v9 : vals_ 9 = (.slice A d.log.length a) := hv 9 _ rfl
    have v10 : vals_ 10 = .int .i64 d.log.length := hv 10 _ rfl
    have v11 : vals_ 11 = dp g := hv 11 _ rfl
    have v12 : vals_ 12 = dp g := hv 12 _ rfl
    have v13 : vals_ 13 = .pointer (some ⟨g, 2, none⟩) := hv 13 _ rfl
    have v14 : vals_ 14 = .int .i64 d.sure := hv 14 _ rfl
    have v15 : vals_ 15 = .int .i64 ((d.log.length : Int) - d.sure) := hv 15 _ rfl
    have v16 : vals_ 16 = .int .i64 (min (max n 0) ((d.log.length : Int) - d.sure)) := hv 16 _ rfl
    have v17 : vals_ 17 = .int .i64 (k : Int) := hv 17 _ rfl
    have v18 : vals_ 18 = .int .i64 (k : Int) := hv 18 _ rfl
    simp only [List.length_cons, List.length_nil, Nat.zero_add, Nat.reduceAdd, List.size_toArray, slots, if_true, dstOf, List.getElem?_toArray, List.getElem?_cons_zero, List.getElem?_cons_succ, Option.bind_some, Act.put, List.setIfInBounds_toArray, List.set_cons_zero, List.set_cons_succ, v0, v1, v2, v3, v4, v5, v6, v7, v8, v9, v10, v11, v12, v13, v14, v15, v16, v17, v18]
    clear hv v0 v1 v2 v3 v4 v5 v6 v7 v8 v9 v10 v11 v12 v13 v14 v15 v16 v17 v18
    change wpAny _ _ _ _ 0 _ _ _
    refine wpAny_done (by kernel_rfl) ?_ _
    obtain ⟨⟨c0, c1, c2, c3, c4, c5⟩, f⟩ := (h.below hB).cellsAt
    have H := Lib.hid (h.below hB)
    have HS := Lib.hid (hsl.below hB)
    have hB1 := Lib.hid hB
    clear h hD hB hsl
    go_wp2
    all_goals
      go_end0
      have e0 := (((H.out.set 0 (.slice A' k k) { d with log := d.log.take k } _ _ (by simp [dcells]) HS.out H.out.snap).set 2 (.int .i64 k) { d with log := d.log.take k, sure := k } _ _ rfl (HS.out.set H.out.blk (by decide)) (H.out.snap.set H.out.blk (by decide))))
      refine ⟨rfl, ⟨_, _, (e0.set 4 (.int .i64 (-1)) { d with log := d.log.take k, sure := k, fuse := -1 } _ _ rfl e0.log e0.snap).set 5 (.bool false) _ _ _ rfl (e0.log.set e0.blk (by decide)) (e0.snap.set e0.blk (by decide))⟩, (Only.of_below hB1.out hg).trans (((Only.set.trans Only.set).trans Only.set).trans Only.set)⟩
theorem new_no (room : Int) (w : World) (h : room < 1 ∨ 67108864 < room) : Calls Try.prog 9 #[.int .i64 room] w fun e w' => e = .returned (.tuple #[.pointer none, .int .i64 1]) ∧ w = w' := by
  rcases h with h | h
  · go_enter Try.func9, Try.ntmps9
    go_wp2
    exact bodyPost_ret (v := .tuple #[.pointer none, .int .i64 1]) (by simp [results, Try.results9, go_sem, *]) rfl ⟨rfl, rfl⟩
  · go_enter Try.func9, Try.ntmps9
    go_wp2
    all_goals exact bodyPost_ret (v := .tuple #[.pointer none, .int .i64 1]) (by simp [results, Try.results9, go_sem, *]) rfl ⟨rfl, rfl⟩
theorem new_any (room : Int) (w : World) (h0 : 1 ≤ room) (h1 : room ≤ 67108864) : Calls Try.prog 9 #[.int .i64 room] w fun e w' => e = .returned (.tuple #[dp w.heap.size, .int .i64 0]) ∧ DiskAt w' w.heap.size (newD room) (.slice none 0 0) (.slice none 0 0) ∧ Below w.heap.size w w' := by
  go_enter Try.func9, Try.ntmps9
  go_wp2
  exact bodyPost_ret (v := .tuple #[dp w.heap.size, .int .i64 0]) (by simp [results, Try.results9, go_sem, *]) rfl ⟨rfl, ⟨heap_alloc_new w _, Slc.nil _, Slc.nil _⟩, below_alloc (Below.refl _ _) _⟩
end Go.Proofs.Ythodclhemleeaaa
