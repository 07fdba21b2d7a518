/- Walks of disk's literals, of Crash and New. -/
import Derived.Test.YthodclhemleeaaaC
set_option linter.unusedVariables false
set_option linter.unusedSimpArgs false
namespace Go.Proofs.Ythodclhemleeaaa
open Go.RowKit
open Go.Proofs.YthodclhemleeaaaW.PrintWords (nums ReadsInt own_reads own_reads' nums_length print_append_row own_nil)
attribute [local go_sem] max2_int min2_int max_two min_two
def syncD (d : Dsk) : Dsk := { d with sure := d.log.length }
def clearD (d : Dsk) : Dsk := { d with log := [], sure := 0 }
def swapD (d : Dsk) (bs : List Int) : Dsk := { d with snap := bs }
def appD (d : Dsk) (bs : List Int) : Dsk := { d with log := d.log ++ bs }
set_option maxRecDepth 100000 in
set_option maxHeartbeats 4000000 in
theorem sync_lit (g b0 : Nat) (d : Dsk) (lv sv : Value) (w : World) (h : DiskAt w g d lv sv) (hb0 : w.heap[b0]? = some (.cells #[dp g] 25 (0, 0))) :
    Calls Try.prog 28 #[.pointer (some ⟨b0, 0, none⟩)] w fun e w' => e = .returned (.tuple #[]) ∧ (∃ lv sv, DiskAt w' g (syncD d) lv sv) ∧ Only g w w' := by
  obtain ⟨A, a, rfl, hl1, hl2, hl3, hl4, hl5⟩ := h.log
  have hD := h.blk
  have hLog := h.log
  have hSnap := h.snap
  clear h hl3 hl4 hl5
  go_enter Try.func28, Try.ntmps28
  refine drawn_phi (w := w) ([Fv (dp g), Fv (dp g), Fv (dp g), Fv (.pointer (some ⟨g, 0, none⟩)), Fv ((.slice A d.log.length a)), Fv (.int .i64 d.log.length)] : List (Value → World → Prop)) (by kernel_rfl) (by kernel_rfl) (by kernel_rfl) ?_ ?_ ?_
  · intro i_ F_ hi
    have hl := (List.getElem?_eq_some_iff.1 hi).1
    rcases (show i_ = 0 ∨ i_ = 1 ∨ i_ = 2 ∨ i_ = 3 ∨ i_ = 4 ∨ i_ = 5 by simp at hl; omega) with rfl | rfl | rfl | rfl | rfl | rfl
    · obtain rfl := Option.some.inj (show some (Fv (dp g)) = some F_ from hi)
      exact mono_v _
    · obtain rfl := Option.some.inj (show some (Fv (dp g)) = some F_ from hi)
      exact mono_v _
    · obtain rfl := Option.some.inj (show some (Fv (dp g)) = some F_ from hi)
      exact mono_v _
    · obtain rfl := Option.some.inj (show some (Fv (.pointer (some ⟨g, 0, none⟩))) = some F_ from hi)
      exact mono_v _
    · obtain rfl := Option.some.inj (show some (Fv ((.slice A d.log.length a))) = some F_ from hi)
      exact mono_v _
    · obtain rfl := Option.some.inj (show some (Fv (.int .i64 d.log.length)) = some F_ from hi)
      exact mono_v _
  · intro i_ F_ hi a_ W hs ho hB
    have hl := (List.getElem?_eq_some_iff.1 hi).1
    rcases (show i_ = 0 ∨ i_ = 1 ∨ i_ = 2 ∨ i_ = 3 ∨ i_ = 4 ∨ i_ = 5 by simp at hl; omega) with rfl | rfl | rfl | rfl | rfl | rfl
    · obtain rfl := Option.some.inj (show some (Fv (dp g)) = some F_ from hi)
      clear hi hl
      have e0 : a_.tmps[0]? = some (.pointer (some ⟨b0, 0, none⟩)) := (ho 0 (by kernel_rfl)).trans rfl
      refine ⟨_, rfl, fun KR hKR => ?_⟩
      rw [if_pos (show Region.wanted _ _ = true from rfl)]
      exact wp_load_cell 25 (.tmp 0) rfl b0 0 (by simp [Act.eval, e0]) _ _ (0, 0) _ _ ((hB.block _ (heap_lt hb0)).trans hb0) rfl Try.underlying25 rfl (hKR _ _ rfl (Below.refl _ _))
    · obtain rfl := Option.some.inj (show some (Fv (dp g)) = some F_ from hi)
      clear hi hl
      have e0 : a_.tmps[0]? = some (.pointer (some ⟨b0, 0, none⟩)) := (ho 0 (by kernel_rfl)).trans rfl
      refine ⟨_, rfl, fun KR hKR => ?_⟩
      rw [if_pos (show Region.wanted _ _ = true from rfl)]
      exact wp_load_cell 25 (.tmp 0) rfl b0 0 (by simp [Act.eval, e0]) _ _ (0, 0) _ _ ((hB.block _ (heap_lt hb0)).trans hb0) rfl Try.underlying25 rfl (hKR _ _ rfl (Below.refl _ _))
    · obtain rfl := Option.some.inj (show some (Fv (dp g)) = some F_ from hi)
      clear hi hl
      obtain ⟨x2, e2, rfl⟩ := hs 1 (by kernel_rfl) (Fv (dp g)) rfl 2 rfl
      refine ⟨_, rfl, fun KR hKR => ?_⟩
      rw [if_pos (show Region.wanted _ _ = true from rfl)]
      clear hs ho
      go_simp
      exact hKR _ _ rfl (Below.refl _ _)
    · obtain rfl := Option.some.inj (show some (Fv (.pointer (some ⟨g, 0, none⟩))) = some F_ from hi)
      clear hi hl
      obtain ⟨x3, e3, rfl⟩ := hs 2 (by kernel_rfl) (Fv (dp g)) rfl 3 rfl
      refine ⟨_, rfl, fun KR hKR => ?_⟩
      rw [if_pos (show Region.wanted _ _ = true from rfl)]
      clear hs ho
      go_simp
      exact hKR _ _ rfl (Below.refl _ _)
    · obtain rfl := Option.some.inj (show some (Fv ((.slice A d.log.length a))) = some F_ from hi)
      clear hi hl
      obtain ⟨x4, e4, rfl⟩ := hs 3 (by kernel_rfl) (Fv (.pointer (some ⟨g, 0, none⟩))) rfl 4 rfl
      refine ⟨_, rfl, fun KR hKR => ?_⟩
      rw [if_pos (show Region.wanted _ _ = true from rfl)]
      exact wp_load_cell 31 (.tmp 4) rfl g 0 (by simp [Act.eval, e4]) _ _ (0, 0) _ _ ((hB.block _ (heap_lt hD)).trans hD) rfl Try.underlying31 rfl (hKR _ _ rfl (Below.refl _ _))
    · obtain rfl := Option.some.inj (show some (Fv (.int .i64 d.log.length)) = some F_ from hi)
      clear hi hl
      obtain ⟨x5, e5, rfl⟩ := hs 4 (by kernel_rfl) (Fv ((.slice A d.log.length a))) rfl 5 rfl
      refine ⟨_, rfl, fun KR hKR => ?_⟩
      rw [if_pos (show Region.wanted _ _ = true from rfl)]
      clear hs ho
      go_simp
      exact hKR _ _ rfl (Below.refl _ _)
  · intro vals_ W hv hB
    have v0 : vals_ 0 = dp g := hv 0 _ rfl
    have v1 : vals_ 1 = dp g := hv 1 _ rfl
    have v2 : vals_ 2 = dp g := hv 2 _ rfl
    have v3 : vals_ 3 = .pointer (some ⟨g, 0, none⟩) := hv 3 _ rfl
    have v4 : vals_ 4 = (.slice A d.log.length a) := hv 4 _ rfl
    have v5 : vals_ 5 = .int .i64 d.log.length := hv 5 _ rfl
    simp only [List.length_cons, List.length_nil, Nat.zero_add, Nat.reduceAdd, List.size_toArray, slots, if_true, dstOf, List.getElem?_toArray, List.getElem?_cons_zero, List.getElem?_cons_succ, Option.bind_some, Act.put, List.setIfInBounds_toArray, List.set_cons_zero, List.set_cons_succ, v0, v1, v2, v3, v4, v5]
    clear hv v0 v1 v2 v3 v4 v5
    change wpAny _ _ _ _ 3 _ _ _
    refine wpAny_ready (rs := [6]) (by kernel_rfl) (by simp) ?_
    refine AllReady.cons (o := { dst := some 7, op := Go.Op.nilCheck (Go.Operand.tmp 1), type := 0, pos := "disk.go:56", after := #[{ on := 0, ground := Go.Ground.data }, { on := 0, ground := Go.Ground.phase }, { on := 1, ground := Go.Ground.phase }, { on := 2, ground := Go.Ground.phase }, { on := 3, ground := Go.Ground.phase }, { on := 4, ground := Go.Ground.phase }, { on := 5, ground := Go.Ground.phase }], guard := none }) rfl (fun KR hKR => ?_) AllReady.nil
    go_simp
    refine hKR _ _ ?_
    clear hKR KR
    (try simp only [Act.put, List.setIfInBounds_toArray, List.set_cons_zero, List.set_cons_succ])
    refine wpAny_ready (rs := [7]) (by kernel_rfl) (by simp) ?_
    refine AllReady.cons (o := { dst := some 8, op := Go.Op.fieldAddr 44 (Go.Operand.tmp 7) 2, type := 0, pos := "disk.go:56", after := #[{ on := 6, ground := Go.Ground.data }, { on := 0, ground := Go.Ground.phase }, { on := 1, ground := Go.Ground.phase }, { on := 2, ground := Go.Ground.phase }, { on := 3, ground := Go.Ground.phase }, { on := 4, ground := Go.Ground.phase }, { on := 5, ground := Go.Ground.phase }], guard := none }) rfl (fun KR hKR => ?_) AllReady.nil
    go_simp
    refine hKR _ _ ?_
    clear hKR KR
    (try simp only [Act.put, List.setIfInBounds_toArray, List.set_cons_zero, List.set_cons_succ])
    refine wpAny_ready (rs := [8]) (by kernel_rfl) (by simp) ?_
    refine AllReady.cons (o := { dst := none, op := Go.Op.store 3 (Go.Operand.tmp 8) (Go.Operand.tmp 6), type := 0, pos := "disk.go:56", after := #[{ on := 7, ground := Go.Ground.data }, { on := 5, ground := Go.Ground.data }, { on := 0, ground := Go.Ground.phase }, { on := 1, ground := Go.Ground.phase }, { on := 2, ground := Go.Ground.phase }, { on := 3, ground := Go.Ground.phase }, { on := 4, ground := Go.Ground.phase }, { on := 5, ground := Go.Ground.phase }], guard := none }) rfl (fun KR hKR => ?_) AllReady.nil
    rw [if_pos (show Region.wanted _ _ = true from rfl)]
    have hD1 := (hB.block _ (heap_lt hD)).trans hD; refine wp_store_cell 3 (.tmp 8) (.tmp 6) rfl g 2 rfl (.int .i64 d.log.length) rfl 44 _ hD1 (Nat.le_of_ble_eq_true rfl) (by kernel_rfl) rfl rfl ?_; intro w9 hD9 hs9 far9 bel9; refine hKR _ _ ?_; clear hKR KR; (try simp only [Act.put, List.setIfInBounds_toArray, List.set_cons_zero, List.set_cons_succ])
    refine wpAny_done (by kernel_rfl) ?_ _
    go_end0
    have hO : Only g w w9 := ⟨by rw [hs9]; exact hB.size, fun k hk hne => (far9 k hne).trans (hB.block k hk), fun B w0 hBg hb' => bel9 B w0 hBg (hb'.trans (hB.mono (Nat.le_of_lt (Nat.lt_of_le_of_lt hBg (heap_lt hD)))))⟩
    exact ⟨rfl, ⟨_, _, ⟨hD9, hO.slc hLog hD (by decide), hO.slc hSnap hD (by decide)⟩⟩, hO⟩
set_option maxHeartbeats 4000000 in
theorem clear_lit (g b0 : Nat) (d : Dsk) (lv sv : Value) (w : World) (h : DiskAt w g d lv sv) (hb0 : w.heap[b0]? = some (.cells #[dp g] 25 (0, 0))) :
    Calls Try.prog 31 #[.pointer (some ⟨b0, 0, none⟩)] w fun e w' => e = .returned (.tuple #[]) ∧ (∃ lv sv, DiskAt w' g (clearD d) lv sv) ∧ Only g w w' := by
  have hne := ne_of_types h.blk hb0 (by decide)
  have hne' : ¬ b0 = g := fun e => hne e.symm
  have hne2 : ¬ g = b0 := hne
  obtain ⟨⟨c0, c1, c2, c3, c4, c5⟩, f⟩ := h.cellsAt
  have cb := cell_of_heap hb0 (j := 0) (v := dp g) rfl
  have H := Lib.hid h
  clear h hb0 hne
  go_enter Try.func31, Try.ntmps31
  go_region
  all_goals
    go_end0
    refine ⟨rfl, ⟨_, _, ((H.out.set 0 (.slice none 0 0) { d with log := [] } _ _ rfl (Slc.nil _) H.out.snap).set 2 (.int .i64 0) (clearD d) _ _ rfl (Slc.nil _) (H.out.snap.set H.out.blk (by decide))).drew⟩, (Only.set.trans Only.set).drew⟩
set_option maxRecDepth 100000 in
set_option maxHeartbeats 4000000 in
theorem swap_lit (g b0 : Nat) (d : Dsk) (lv sv : Value) (w : World) (h : DiskAt w g d lv sv) (hb0 : w.heap[b0]? = some (.cells #[dp g] 25 (0, 0))) (b1 : Nat) (bv : Value) (bs : List Int) (hb1 : w.heap[b1]? = some (.cells #[bv] 31 (0, 0))) (hbs : Slc0 w bv bs) (hbl : bs.length ≤ 1099511627776) :
    Calls Try.prog 29 #[.pointer (some ⟨b1, 0, none⟩), .pointer (some ⟨b0, 0, none⟩)] w fun e w' => e = .returned (.tuple #[]) ∧ (∃ lv sv, DiskAt w' g (swapD d bs) lv sv) ∧ Only g w w' := by
  have hD := h.blk
  have hLog := h.log
  have hSnap := h.snap
  clear h
  go_enter Try.func29, Try.ntmps29
  refine drawn_phi (w := w) ([Fv (dp g), Fv (bv), (fun v W => Slc W v bs)] : List (Value → World → Prop)) (by kernel_rfl) (by kernel_rfl) (by kernel_rfl) ?_ ?_ ?_
  · intro i_ F_ hi
    have hl := (List.getElem?_eq_some_iff.1 hi).1
    rcases (show i_ = 0 ∨ i_ = 1 ∨ i_ = 2 by simp at hl; omega) with rfl | rfl | rfl
    · obtain rfl := Option.some.inj (show some (Fv (dp g)) = some F_ from hi)
      exact mono_v _
    · obtain rfl := Option.some.inj (show some (Fv (bv)) = some F_ from hi)
      exact mono_v _
    · obtain rfl := Option.some.inj (show some ((fun v W => Slc W v bs)) = some F_ from hi)
      exact fun v W W1 h hb => Slc.below h hb
  · intro i_ F_ hi a_ W hs ho hB
    have hl := (List.getElem?_eq_some_iff.1 hi).1
    rcases (show i_ = 0 ∨ i_ = 1 ∨ i_ = 2 by simp at hl; omega) with rfl | rfl | rfl
    · obtain rfl := Option.some.inj (show some (Fv (dp g)) = some F_ from hi)
      clear hi hl
      have e1 : a_.tmps[1]? = some (.pointer (some ⟨b0, 0, none⟩)) := (ho 1 (by kernel_rfl)).trans rfl
      refine ⟨_, rfl, fun KR hKR => ?_⟩
      rw [if_pos (show Region.wanted _ _ = true from rfl)]
      exact wp_load_cell 25 (.tmp 1) rfl b0 0 (by simp [Act.eval, e1]) _ _ (0, 0) _ _ ((hB.block _ (heap_lt hb0)).trans hb0) rfl Try.underlying25 rfl (hKR _ _ rfl (Below.refl _ _))
    · obtain rfl := Option.some.inj (show some (Fv (bv)) = some F_ from hi)
      clear hi hl
      have e0 : a_.tmps[0]? = some (.pointer (some ⟨b1, 0, none⟩)) := (ho 0 (by kernel_rfl)).trans rfl
      refine ⟨_, rfl, fun KR hKR => ?_⟩
      rw [if_pos (show Region.wanted _ _ = true from rfl)]
      exact wp_load_cell 31 (.tmp 0) rfl b1 0 (by simp [Act.eval, e0]) _ _ (0, 0) _ _ ((hB.block _ (heap_lt hb1)).trans hb1) rfl Try.underlying31 rfl (hKR _ _ rfl (Below.refl _ _))
    · obtain rfl := Option.some.inj (show some ((fun v W => Slc W v bs)) = some F_ from hi)
      clear hi hl
      obtain ⟨x3, e3, rfl⟩ := hs 1 (by kernel_rfl) (Fv (bv)) rfl 3 rfl
      refine ⟨_, rfl, fun KR hKR => ?_⟩
      rw [if_pos (show Region.wanted _ _ = true from rfl)]
      clear hs ho
      (go_simp; (go_at_call 30; refine (clone_any _ bs _ (hbs.below hB) hbl).mono ?_; rintro e w1 ⟨v1, rfl, ho, hb⟩; exact hKR _ _ (Slc.own ho) hb))
  · intro vals_ W hv hB
    have v0 : vals_ 0 = dp g := hv 0 _ rfl
    have v1 : vals_ 1 = bv := hv 1 _ rfl
    have hp4 := hv 2 _ rfl
    obtain ⟨y9, v2⟩ : ∃ y_, vals_ 2 = y_ := ⟨_, rfl⟩
    rw [v2] at hp4
    simp only [List.length_cons, List.length_nil, Nat.zero_add, Nat.reduceAdd, List.size_toArray, slots, if_true, dstOf, List.getElem?_toArray, List.getElem?_cons_zero, List.getElem?_cons_succ, Option.bind_some, Act.put, List.setIfInBounds_toArray, List.set_cons_zero, List.set_cons_succ, v0, v1, v2]
    clear hv v0 v1 v2
    change wpAny _ _ _ _ 3 _ _ _
    refine wpAny_ready (rs := [3]) (by kernel_rfl) (by simp) ?_
    refine AllReady.cons (o := { dst := some 5, op := Go.Op.nilCheck (Go.Operand.tmp 2), type := 0, pos := "disk.go:63", after := #[{ on := 0, ground := Go.Ground.data }, { on := 0, ground := Go.Ground.phase }, { on := 1, ground := Go.Ground.phase }, { on := 2, ground := Go.Ground.phase }], guard := none }) rfl (fun KR hKR => ?_) AllReady.nil
    go_simp
    refine hKR _ _ ?_
    clear hKR KR
    (try simp only [Act.put, List.setIfInBounds_toArray, List.set_cons_zero, List.set_cons_succ])
    refine wpAny_ready (rs := [4]) (by kernel_rfl) (by simp) ?_
    refine AllReady.cons (o := { dst := some 6, op := Go.Op.fieldAddr 44 (Go.Operand.tmp 5) 1, type := 0, pos := "disk.go:63", after := #[{ on := 3, ground := Go.Ground.data }, { on := 0, ground := Go.Ground.phase }, { on := 1, ground := Go.Ground.phase }, { on := 2, ground := Go.Ground.phase }], guard := none }) rfl (fun KR hKR => ?_) AllReady.nil
    go_simp
    refine hKR _ _ ?_
    clear hKR KR
    (try simp only [Act.put, List.setIfInBounds_toArray, List.set_cons_zero, List.set_cons_succ])
    refine wpAny_ready (rs := [5]) (by kernel_rfl) (by simp) ?_
    refine AllReady.cons (o := { dst := none, op := Go.Op.store 31 (Go.Operand.tmp 6) (Go.Operand.tmp 4), type := 0, pos := "disk.go:63", after := #[{ on := 4, ground := Go.Ground.data }, { on := 2, ground := Go.Ground.data }, { on := 2, ground := Go.Ground.chain }, { on := 0, ground := Go.Ground.phase }, { on := 1, ground := Go.Ground.phase }, { on := 2, ground := Go.Ground.phase }], guard := none }) rfl (fun KR hKR => ?_) AllReady.nil
    rw [if_pos (show Region.wanted _ _ = true from rfl)]
    obtain ⟨A9, a9, rfl, _⟩ := id hp4; have hD1 := (hB.block _ (heap_lt hD)).trans hD; refine wp_store_cell 31 (.tmp 6) (.tmp 4) rfl g 1 rfl (.slice A9 bs.length a9) rfl 44 _ hD1 (Nat.le_of_ble_eq_true rfl) (by kernel_rfl) rfl rfl ?_; intro w9 hD9 hs9 far9 bel9; refine hKR _ _ ?_; clear hKR KR; (try simp only [Act.put, List.setIfInBounds_toArray, List.set_cons_zero, List.set_cons_succ])
    refine wpAny_done (by kernel_rfl) ?_ _
    go_end0
    have hO : Only g w w9 := ⟨by rw [hs9]; exact hB.size, fun k hk hne => (far9 k hne).trans (hB.block k hk), fun B w0 hBg hb' => bel9 B w0 hBg (hb'.trans (hB.mono (Nat.le_of_lt (Nat.lt_of_le_of_lt hBg (heap_lt hD)))))⟩
    exact ⟨rfl, ⟨_, _, ⟨hD9, hO.slc hLog hD (by decide), (Only.slc ⟨by rw [hs9]; exact Nat.le_refl _, fun k _ hne => far9 k hne, bel9⟩ hp4 hD1 (by decide))⟩⟩, hO⟩
set_option maxRecDepth 100000 in
set_option maxHeartbeats 4000000 in
theorem app_lit (g b0 : Nat) (d : Dsk) (lv sv : Value) (w : World) (h : DiskAt w g d lv sv) (hb0 : w.heap[b0]? = some (.cells #[dp g] 25 (0, 0))) (b1 : Nat) (bv : Value) (bs : List Int) (hb1 : w.heap[b1]? = some (.cells #[bv] 31 (0, 0))) (hbs : Slc0 w bv bs) (hbl : d.log.length + bs.length ≤ 1099511627776) :
    Calls Try.prog 27 #[.pointer (some ⟨b0, 0, none⟩), .pointer (some ⟨b1, 0, none⟩)] w fun e w' => e = .returned (.tuple #[]) ∧ (∃ lv sv, DiskAt w' g (appD d bs) lv sv) ∧ Only g w w' := by
  obtain ⟨A, a, rfl, hl1, hl2, hl3, hl4, hl5⟩ := h.log
  obtain ⟨v', hcut, hsl, A', rfl⟩ := h.log.cut d.log.length (Nat.le_refl _)
  rw [List.take_length] at hsl
  have hA : A = A' := by
    have h1 := hcut w
    have hel : Try.prog.elem 31 = 5 := by kernel_rfl
    have hu : Try.prog.underlying 31 = some (.slice (Try.prog.elem 31)) := by rw [hel]; exact Try.underlying31
    have hs : ((sizeOf (Try.prog.elem 31)).run Try.prog w) = .ok 1 w := by kernel_rfl
    rw [run_slice_hm w 31 A d.log.length a hu .i64 .i64 _ _ (by omega) (by omega) (by omega), hs] at h1
    cases A with
    | none => simpa [sliced, Result.andThen] using h1
    | some ad => simpa [sliced, Result.andThen, Addr.add] using h1
  subst hA
  have hD := h.blk
  have hLog := h.log
  have hSnap := h.snap
  have HC := Lib.hid hcut
  clear h hl3 hl4 hl5 hcut
  go_enter Try.func27, Try.ntmps27
  refine drawn_phi (w := w) ([Fv (dp g), Fv (dp g), Fv (dp g), Fv (.pointer (some ⟨g, 0, none⟩)), Fv ((.slice A d.log.length a)), Fv (dp g), Fv (dp g), Fv (.pointer (some ⟨g, 0, none⟩)), Fv ((.slice A d.log.length a)), Fv (.int .i64 d.log.length), Fv (dp g), Fv (dp g), Fv (.pointer (some ⟨g, 0, none⟩)), Fv ((.slice A d.log.length a)), Fv (.int .i64 d.log.length), Fv (.slice A d.log.length d.log.length), Fv (bv), (fun v W => Slc W v (d.log ++ bs))] : List (Value → World → Prop)) (by kernel_rfl) (by kernel_rfl) (by kernel_rfl) ?_ ?_ ?_
  · intro i_ F_ hi
    have hl := (List.getElem?_eq_some_iff.1 hi).1
    rcases (show i_ = 0 ∨ i_ = 1 ∨ i_ = 2 ∨ i_ = 3 ∨ i_ = 4 ∨ i_ = 5 ∨ i_ = 6 ∨ i_ = 7 ∨ i_ = 8 ∨ i_ = 9 ∨ i_ = 10 ∨ i_ = 11 ∨ i_ = 12 ∨ i_ = 13 ∨ i_ = 14 ∨ i_ = 15 ∨ i_ = 16 ∨ i_ = 17 by simp at hl; omega) with rfl | rfl | rfl | rfl | rfl | rfl | rfl | rfl | rfl | rfl | rfl | rfl | rfl | rfl | rfl | rfl | rfl | rfl
    · obtain rfl := Option.some.inj (show some (Fv (dp g)) = some F_ from hi)
      exact mono_v _
    · obtain rfl := Option.some.inj (show some (Fv (dp g)) = some F_ from hi)
      exact mono_v _
    · obtain rfl := Option.some.inj (show some (Fv (dp g)) = some F_ from hi)
      exact mono_v _
    · obtain rfl := Option.some.inj (show some (Fv (.pointer (some ⟨g, 0, none⟩))) = some F_ from hi)
      exact mono_v _
    · obtain rfl := Option.some.inj (show some (Fv ((.slice A d.log.length a))) = some F_ from hi)
      exact mono_v _
    · obtain rfl := Option.some.inj (show some (Fv (dp g)) = some F_ from hi)
      exact mono_v _
    · obtain rfl := Option.some.inj (show some (Fv (dp g)) = some F_ from hi)
      exact mono_v _
    · obtain rfl := Option.some.inj (show some (Fv (.pointer (some ⟨g, 0, none⟩))) = some F_ from hi)
      exact mono_v _
    · obtain rfl := Option.some.inj (show some (Fv ((.slice A d.log.length a))) = some F_ from hi)
      exact mono_v _
    · obtain rfl := Option.some.inj (show some (Fv (.int .i64 d.log.length)) = some F_ from hi)
      exact mono_v _
    · obtain rfl := Option.some.inj (show some (Fv (dp g)) = some F_ from hi)
      exact mono_v _
    · obtain rfl := Option.some.inj (show some (Fv (dp g)) = some F_ from hi)
      exact mono_v _
    · obtain rfl := Option.some.inj (show some (Fv (.pointer (some ⟨g, 0, none⟩))) = some F_ from hi)
      exact mono_v _
    · obtain rfl := Option.some.inj (show some (Fv ((.slice A d.log.length a))) = some F_ from hi)
      exact mono_v _
    · obtain rfl := Option.some.inj (show some (Fv (.int .i64 d.log.length)) = some F_ from hi)
      exact mono_v _
    · obtain rfl := Option.some.inj (show some (Fv (.slice A d.log.length d.log.length)) = some F_ from hi)
      exact mono_v _
    · obtain rfl := Option.some.inj (show some (Fv (bv)) = some F_ from hi)
      exact mono_v _
    · obtain rfl := Option.some.inj (show some ((fun v W => Slc W v (d.log ++ bs))) = some F_ from hi)
      exact fun v W W1 h hb => Slc.below h hb
  · intro i_ F_ hi a_ W hs ho hB
    have hl := (List.getElem?_eq_some_iff.1 hi).1
    rcases (show i_ = 0 ∨ i_ = 1 ∨ i_ = 2 ∨ i_ = 3 ∨ i_ = 4 ∨ i_ = 5 ∨ i_ = 6 ∨ i_ = 7 ∨ i_ = 8 ∨ i_ = 9 ∨ i_ = 10 ∨ i_ = 11 ∨ i_ = 12 ∨ i_ = 13 ∨ i_ = 14 ∨ i_ = 15 ∨ i_ = 16 ∨ i_ = 17 by simp at hl; omega) with rfl | rfl | rfl | rfl | rfl | rfl | rfl | rfl | rfl | rfl | rfl | rfl | rfl | rfl | rfl | rfl | rfl | rfl
    · obtain rfl := Option.some.inj (show some (Fv (dp g)) = some F_ from hi)
      clear hi hl
      have e0 : a_.tmps[0]? = some (.pointer (some ⟨b0, 0, none⟩)) := (ho 0 (by kernel_rfl)).trans rfl
      refine ⟨_, rfl, fun KR hKR => ?_⟩
      rw [if_pos (show Region.wanted _ _ = true from rfl)]
      exact wp_load_cell 25 (.tmp 0) rfl b0 0 (by simp [Act.eval, e0]) _ _ (0, 0) _ _ ((hB.block _ (heap_lt hb0)).trans hb0) rfl Try.underlying25 rfl (hKR _ _ rfl (Below.refl _ _))
    · obtain rfl := Option.some.inj (show some (Fv (dp g)) = some F_ from hi)
      clear hi hl
      have e0 : a_.tmps[0]? = some (.pointer (some ⟨b0, 0, none⟩)) := (ho 0 (by kernel_rfl)).trans rfl
      refine ⟨_, rfl, fun KR hKR => ?_⟩
      rw [if_pos (show Region.wanted _ _ = true from rfl)]
      exact wp_load_cell 25 (.tmp 0) rfl b0 0 (by simp [Act.eval, e0]) _ _ (0, 0) _ _ ((hB.block _ (heap_lt hb0)).trans hb0) rfl Try.underlying25 rfl (hKR _ _ rfl (Below.refl _ _))
    · obtain rfl := Option.some.inj (show some (Fv (dp g)) = some F_ from hi)
      clear hi hl
      obtain ⟨x3, e3, rfl⟩ := hs 1 (by kernel_rfl) (Fv (dp g)) rfl 3 rfl
      refine ⟨_, rfl, fun KR hKR => ?_⟩
      rw [if_pos (show Region.wanted _ _ = true from rfl)]
      clear hs ho
      go_simp
      exact hKR _ _ rfl (Below.refl _ _)
    · obtain rfl := Option.some.inj (show some (Fv (.pointer (some ⟨g, 0, none⟩))) = some F_ from hi)
      clear hi hl
      obtain ⟨x4, e4, rfl⟩ := hs 2 (by kernel_rfl) (Fv (dp g)) rfl 4 rfl
      refine ⟨_, rfl, fun KR hKR => ?_⟩
      rw [if_pos (show Region.wanted _ _ = true from rfl)]
      clear hs ho
      go_simp
      exact hKR _ _ rfl (Below.refl _ _)
    · obtain rfl := Option.some.inj (show some (Fv ((.slice A d.log.length a))) = some F_ from hi)
      clear hi hl
      obtain ⟨x5, e5, rfl⟩ := hs 3 (by kernel_rfl) (Fv (.pointer (some ⟨g, 0, none⟩))) rfl 5 rfl
      refine ⟨_, rfl, fun KR hKR => ?_⟩
      rw [if_pos (show Region.wanted _ _ = true from rfl)]
      exact wp_load_cell 31 (.tmp 5) rfl g 0 (by simp [Act.eval, e5]) _ _ (0, 0) _ _ ((hB.block _ (heap_lt hD)).trans hD) rfl Try.underlying31 rfl (hKR _ _ rfl (Below.refl _ _))
    · obtain rfl := Option.some.inj (show some (Fv (dp g)) = some F_ from hi)
      clear hi hl
      have e0 : a_.tmps[0]? = some (.pointer (some ⟨b0, 0, none⟩)) := (ho 0 (by kernel_rfl)).trans rfl
      refine ⟨_, rfl, fun KR hKR => ?_⟩
      rw [if_pos (show Region.wanted _ _ = true from rfl)]
      exact wp_load_cell 25 (.tmp 0) rfl b0 0 (by simp [Act.eval, e0]) _ _ (0, 0) _ _ ((hB.block _ (heap_lt hb0)).trans hb0) rfl Try.underlying25 rfl (hKR _ _ rfl (Below.refl _ _))
    · obtain rfl := Option.some.inj (show some (Fv (dp g)) = some F_ from hi)
      clear hi hl
      obtain ⟨x7, e7, rfl⟩ := hs 5 (by kernel_rfl) (Fv (dp g)) rfl 7 rfl
      refine ⟨_, rfl, fun KR hKR => ?_⟩
      rw [if_pos (show Region.wanted _ _ = true from rfl)]
      clear hs ho
      go_simp
      exact hKR _ _ rfl (Below.refl _ _)
    · obtain rfl := Option.some.inj (show some (Fv (.pointer (some ⟨g, 0, none⟩))) = some F_ from hi)
      clear hi hl
      obtain ⟨x8, e8, rfl⟩ := hs 6 (by kernel_rfl) (Fv (dp g)) rfl 8 rfl
      refine ⟨_, rfl, fun KR hKR => ?_⟩
      rw [if_pos (show Region.wanted _ _ = true from rfl)]
      clear hs ho
      go_simp
      exact hKR _ _ rfl (Below.refl _ _)
    · obtain rfl := Option.some.inj (show some (Fv ((.slice A d.log.length a))) = some F_ from hi)
      clear hi hl
      obtain ⟨x9, e9, rfl⟩ := hs 7 (by kernel_rfl) (Fv (.pointer (some ⟨g, 0, none⟩))) rfl 9 rfl
      refine ⟨_, rfl, fun KR hKR => ?_⟩
      rw [if_pos (show Region.wanted _ _ = true from rfl)]
      exact wp_load_cell 31 (.tmp 9) rfl g 0 (by simp [Act.eval, e9]) _ _ (0, 0) _ _ ((hB.block _ (heap_lt hD)).trans hD) rfl Try.underlying31 rfl (hKR _ _ rfl (Below.refl _ _))
    · obtain rfl := Option.some.inj (show some (Fv (.int .i64 d.log.length)) = some F_ from hi)
      clear hi hl
      obtain ⟨x10, e10, rfl⟩ := hs 8 (by kernel_rfl) (Fv ((.slice A d.log.length a))) rfl 10 rfl
      refine ⟨_, rfl, fun KR hKR => ?_⟩
      rw [if_pos (show Region.wanted _ _ = true from rfl)]
      clear hs ho
      go_simp
      exact hKR _ _ rfl (Below.refl _ _)
    · obtain rfl := Option.some.inj (show some (Fv (dp g)) = some F_ from hi)
      clear hi hl
      have e0 : a_.tmps[0]? = some (.pointer (some ⟨b0, 0, none⟩)) := (ho 0 (by kernel_rfl)).trans rfl
      refine ⟨_, rfl, fun KR hKR => ?_⟩
      rw [if_pos (show Region.wanted _ _ = true from rfl)]
      exact wp_load_cell 25 (.tmp 0) rfl b0 0 (by simp [Act.eval, e0]) _ _ (0, 0) _ _ ((hB.block _ (heap_lt hb0)).trans hb0) rfl Try.underlying25 rfl (hKR _ _ rfl (Below.refl _ _))
    · obtain rfl := Option.some.inj (show some (Fv (dp g)) = some F_ from hi)
      clear hi hl
      obtain ⟨x12, e12, rfl⟩ := hs 10 (by kernel_rfl) (Fv (dp g)) rfl 12 rfl
      refine ⟨_, rfl, fun KR hKR => ?_⟩
      rw [if_pos (show Region.wanted _ _ = true from rfl)]
      clear hs ho
      go_simp
      exact hKR _ _ rfl (Below.refl _ _)
    · obtain rfl := Option.some.inj (show some (Fv (.pointer (some ⟨g, 0, none⟩))) = some F_ from hi)
      clear hi hl
      obtain ⟨x13, e13, rfl⟩ := hs 11 (by kernel_rfl) (Fv (dp g)) rfl 13 rfl
      refine ⟨_, rfl, fun KR hKR => ?_⟩
      rw [if_pos (show Region.wanted _ _ = true from rfl)]
      clear hs ho
      go_simp
      exact hKR _ _ rfl (Below.refl _ _)
    · obtain rfl := Option.some.inj (show some (Fv ((.slice A d.log.length a))) = some F_ from hi)
      clear hi hl
      obtain ⟨x14, e14, rfl⟩ := hs 12 (by kernel_rfl) (Fv (.pointer (some ⟨g, 0, none⟩))) rfl 14 rfl
      refine ⟨_, rfl, fun KR hKR => ?_⟩
      rw [if_pos (show Region.wanted _ _ = true from rfl)]
      exact wp_load_cell 31 (.tmp 14) rfl g 0 (by simp [Act.eval, e14]) _ _ (0, 0) _ _ ((hB.block _ (heap_lt hD)).trans hD) rfl Try.underlying31 rfl (hKR _ _ rfl (Below.refl _ _))
    · obtain rfl := Option.some.inj (show some (Fv (.int .i64 d.log.length)) = some F_ from hi)
      clear hi hl
      obtain ⟨x15, e15, rfl⟩ := hs 13 (by kernel_rfl) (Fv ((.slice A d.log.length a))) rfl 15 rfl
      refine ⟨_, rfl, fun KR hKR => ?_⟩
      rw [if_pos (show Region.wanted _ _ = true from rfl)]
      clear hs ho
      go_simp
      exact hKR _ _ rfl (Below.refl _ _)
    · obtain rfl := Option.some.inj (show some (Fv (.slice A d.log.length d.log.length)) = some F_ from hi)
      clear hi hl
      obtain ⟨x6, e6, rfl⟩ := hs 4 (by kernel_rfl) (Fv ((.slice A d.log.length a))) rfl 6 rfl
      obtain ⟨x11, e11, rfl⟩ := hs 9 (by kernel_rfl) (Fv (.int .i64 d.log.length)) rfl 11 rfl
      obtain ⟨x16, e16, rfl⟩ := hs 14 (by kernel_rfl) (Fv (.int .i64 d.log.length)) rfl 16 rfl
      refine ⟨_, rfl, fun KR hKR => ?_⟩
      rw [if_pos (show Region.wanted _ _ = true from rfl)]
      have E := HC.out W
      clear hs ho
      go_simp
      exact hKR _ _ rfl (Below.refl _ _)
    · obtain rfl := Option.some.inj (show some (Fv (bv)) = some F_ from hi)
      clear hi hl
      have e1 : a_.tmps[1]? = some (.pointer (some ⟨b1, 0, none⟩)) := (ho 1 (by kernel_rfl)).trans rfl
      refine ⟨_, rfl, fun KR hKR => ?_⟩
      rw [if_pos (show Region.wanted _ _ = true from rfl)]
      exact wp_load_cell 31 (.tmp 1) rfl b1 0 (by simp [Act.eval, e1]) _ _ (0, 0) _ _ ((hB.block _ (heap_lt hb1)).trans hb1) rfl Try.underlying31 rfl (hKR _ _ rfl (Below.refl _ _))
    · obtain rfl := Option.some.inj (show some ((fun v W => Slc W v (d.log ++ bs))) = some F_ from hi)
      clear hi hl
      obtain ⟨x17, e17, rfl⟩ := hs 15 (by kernel_rfl) (Fv (.slice A d.log.length d.log.length)) rfl 17 rfl
      obtain ⟨x18, e18, rfl⟩ := hs 16 (by kernel_rfl) (Fv (bv)) rfl 18 rfl
      refine ⟨_, rfl, fun KR hKR => ?_⟩
      rw [if_pos (show Region.wanted _ _ = true from rfl)]
      clear hs ho
      (obtain ⟨v7, W7, hrun, hs7, hb7, _⟩ := app_full (hsl.below hB) rfl (hbs.below hB) hbl; exact wp_append_of (.tmp 17) (.tmp 18) rfl rfl _ _ (by simp [Act.eval, e17]) (by simp [Act.eval, e18]) hrun (hKR _ _ hs7 hb7))
  · intro vals_ W hv hB
    have v0 : vals_ 0 = dp g := hv 0 _ rfl
    have v1 : vals_ 1 = dp g := hv 1 _ rfl
    have v2 : vals_ 2 = dp g := hv 2 _ rfl
    have v3 : vals_ 3 = .pointer (some ⟨g, 0, none⟩) := hv 3 _ rfl
    have v4 : vals_ 4 = (.slice A d.log.length a) := hv 4 _ rfl
    have v5 : vals_ 5 = dp g := hv 5 _ rfl
    have v6 : vals_ 6 = dp g := hv 6 _ rfl
    have v7 : vals_ 7 = .pointer (some ⟨g, 0, none⟩) := hv 7 _ rfl
    have v8 : vals_ 8 = (.slice A d.log.length a) := hv 8 _ rfl
    have v9 : vals_ 9 = .int .i64 d.log.length := hv 9 _ rfl
    have v10 : vals_ 10 = dp g := hv 10 _ rfl
    have v11 : vals_ 11 = dp g := hv 11 _ rfl
    have v12 : vals_ 12 = .pointer (some ⟨g, 0, none⟩) := hv 12 _ rfl
    have v13 : vals_ 13 = (.slice A d.log.length a) := hv 13 _ rfl
    have v14 : vals_ 14 = .int .i64 d.log.length := hv 14 _ rfl
    have v15 : vals_ 15 = .slice A d.log.length d.log.length := hv 15 _ rfl
    have v16 : vals_ 16 = bv := hv 16 _ rfl
    have hp19 := hv 17 _ rfl
    obtain ⟨y9, v17⟩ : ∃ y_, vals_ 17 = y_ := ⟨_, rfl⟩
    rw [v17] at hp19
    simp only [List.length_cons, List.length_nil, Nat.zero_add, Nat.reduceAdd, List.size_toArray, slots, if_true, dstOf, List.getElem?_toArray, List.getElem?_cons_zero, List.getElem?_cons_succ, Option.bind_some, Act.put, List.setIfInBounds_toArray, List.set_cons_zero, List.set_cons_succ, v0, v1, v2, v3, v4, v5, v6, v7, v8, v9, v10, v11, v12, v13, v14, v15, v16, v17]
    clear hv v0 v1 v2 v3 v4 v5 v6 v7 v8 v9 v10 v11 v12 v13 v14 v15 v16 v17
    change wpAny _ _ _ _ 3 _ _ _
    refine wpAny_ready (rs := [18]) (by kernel_rfl) (by simp) ?_
    refine AllReady.cons (o := { dst := some 20, op := Go.Op.nilCheck (Go.Operand.tmp 2), type := 0, pos := "disk.go:53", after := #[{ on := 0, ground := Go.Ground.data }, { on := 0, ground := Go.Ground.phase }, { on := 1, ground := Go.Ground.phase }, { on := 2, ground := Go.Ground.phase }, { on := 3, ground := Go.Ground.phase }, { on := 4, ground := Go.Ground.phase }, { on := 5, ground := Go.Ground.phase }, { on := 6, ground := Go.Ground.phase }, { on := 7, ground := Go.Ground.phase }, { on := 8, ground := Go.Ground.phase }, { on := 9, ground := Go.Ground.phase }, { on := 10, ground := Go.Ground.phase }, { on := 11, ground := Go.Ground.phase }, { on := 12, ground := Go.Ground.phase }, { on := 13, ground := Go.Ground.phase }, { on := 14, ground := Go.Ground.phase }, { on := 15, ground := Go.Ground.phase }, { on := 16, ground := Go.Ground.phase }, { on := 17, ground := Go.Ground.phase }], guard := none }) rfl (fun KR hKR => ?_) AllReady.nil
    go_simp
    refine hKR _ _ ?_
    clear hKR KR
    (try simp only [Act.put, List.setIfInBounds_toArray, List.set_cons_zero, List.set_cons_succ])
    refine wpAny_ready (rs := [19]) (by kernel_rfl) (by simp) ?_
    refine AllReady.cons (o := { dst := some 21, op := Go.Op.fieldAddr 44 (Go.Operand.tmp 20) 0, type := 0, pos := "disk.go:53", after := #[{ on := 18, ground := Go.Ground.data }, { on := 0, ground := Go.Ground.phase }, { on := 1, ground := Go.Ground.phase }, { on := 2, ground := Go.Ground.phase }, { on := 3, ground := Go.Ground.phase }, { on := 4, ground := Go.Ground.phase }, { on := 5, ground := Go.Ground.phase }, { on := 6, ground := Go.Ground.phase }, { on := 7, ground := Go.Ground.phase }, { on := 8, ground := Go.Ground.phase }, { on := 9, ground := Go.Ground.phase }, { on := 10, ground := Go.Ground.phase }, { on := 11, ground := Go.Ground.phase }, { on := 12, ground := Go.Ground.phase }, { on := 13, ground := Go.Ground.phase }, { on := 14, ground := Go.Ground.phase }, { on := 15, ground := Go.Ground.phase }, { on := 16, ground := Go.Ground.phase }, { on := 17, ground := Go.Ground.phase }], guard := none }) rfl (fun KR hKR => ?_) AllReady.nil
    go_simp
    refine hKR _ _ ?_
    clear hKR KR
    (try simp only [Act.put, List.setIfInBounds_toArray, List.set_cons_zero, List.set_cons_succ])
    refine wpAny_ready (rs := [20]) (by kernel_rfl) (by simp) ?_
    refine AllReady.cons (o := { dst := none, op := Go.Op.store 31 (Go.Operand.tmp 21) (Go.Operand.tmp 19), type := 0, pos := "disk.go:53", after := #[{ on := 19, ground := Go.Ground.data }, { on := 17, ground := Go.Ground.data }, { on := 17, ground := Go.Ground.chain }, { on := 0, ground := Go.Ground.phase }, { on := 1, ground := Go.Ground.phase }, { on := 2, ground := Go.Ground.phase }, { on := 3, ground := Go.Ground.phase }, { on := 4, ground := Go.Ground.phase }, { on := 5, ground := Go.Ground.phase }, { on := 6, ground := Go.Ground.phase }, { on := 7, ground := Go.Ground.phase }, { on := 8, ground := Go.Ground.phase }, { on := 9, ground := Go.Ground.phase }, { on := 10, ground := Go.Ground.phase }, { on := 11, ground := Go.Ground.phase }, { on := 12, ground := Go.Ground.phase }, { on := 13, ground := Go.Ground.phase }, { on := 14, ground := Go.Ground.phase }, { on := 15, ground := Go.Ground.phase }, { on := 16, ground := Go.Ground.phase }, { on := 17, ground := Go.Ground.phase }], guard := none }) rfl (fun KR hKR => ?_) AllReady.nil
    rw [if_pos (show Region.wanted _ _ = true from rfl)]
    obtain ⟨A9, a9, rfl, _⟩ := id hp19; have hD1 := (hB.block _ (heap_lt hD)).trans hD; refine wp_store_cell 31 (.tmp 21) (.tmp 19) rfl g 0 rfl (.slice A9 (d.log ++ bs).length a9) rfl 44 _ hD1 (Nat.le_of_ble_eq_true rfl) (by kernel_rfl) rfl rfl ?_; intro w9 hD9 hs9 far9 bel9; refine hKR _ _ ?_; clear hKR KR; (try simp only [Act.put, List.setIfInBounds_toArray, List.set_cons_zero, List.set_cons_succ])
    refine wpAny_done (by kernel_rfl) ?_ _
    go_end0
    have hO : Only g w w9 := ⟨by rw [hs9]; exact hB.size, fun k hk hne => (far9 k hne).trans (hB.block k hk), fun B w0 hBg hb' => bel9 B w0 hBg (hb'.trans (hB.mono (Nat.le_of_lt (Nat.lt_of_le_of_lt hBg (heap_lt hD)))))⟩
    exact ⟨rfl, ⟨_, _, ⟨hD9, (Only.slc ⟨by rw [hs9]; exact Nat.le_refl _, fun k _ hne => far9 k hne, bel9⟩ hp19 hD1 (by decide)), hO.slc hSnap hD (by decide)⟩⟩, hO⟩
end Go.Proofs.Ythodclhemleeaaa
