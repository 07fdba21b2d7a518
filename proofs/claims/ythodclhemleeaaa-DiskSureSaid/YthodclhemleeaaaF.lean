/- Walks of disk's operations. -/
import Derived.Test.YthodclhemleeaaaE
set_option linter.unusedVariables false
set_option linter.unusedSimpArgs false
namespace Go.Proofs.Ythodclhemleeaaa
open Go.RowKit
open Go.Proofs.YthodclhemleeaaaW.PrintWords (nums ReadsInt own_reads own_reads' nums_length print_append_row own_nil)
attribute [local go_sem] max2_int min2_int max_two min_two
def opR (F : Dsk → Dsk) (half : Bool) (d : Dsk) (used : Int) : Dsk × Int :=
  if d.off then (d, 9) else if d.room < used then (d, 7) else if d.fuse = 0 then (bif half then F (burn d) else burn d, 9) else (F (burn d), 0)
theorem w_in {n : Int} (h1 : -9223372036854775808 ≤ n) (h2 : n ≤ 9223372036854775807) : IntKind.i64.wrap n = n := by
  rw [IntKind.wrap_i64]
  omega
theorem Dead.ptr {W : World} {p : Value} (h : Dead W p) : ∃ q, p = .pointer q := by
  rcases h with h | ⟨g, d, lv, sv, h, _⟩
  · exact ⟨_, h⟩
  · exact ⟨_, h⟩
theorem used_below (g : Nat) (d : Dsk) (lv sv : Value) (w : World) (h : DiskAt w g d lv sv) (hr : 1 ≤ d.room) (hl : (d.log.length : Int) + d.snap.length ≤ 1099511627776) : Calls Try.prog 23 #[dp g] w fun e w' => e = .returned (.int .i64 ((d.log.length : Int) + d.snap.length)) ∧ Below w.heap.size w w' :=
  (used_any g d lv sv w h hr hl).mono fun e w' ⟨he, n, hn⟩ => ⟨he, by subst hn; exact below_drewN (Below.refl _ _) n⟩
theorem operate_app (g b0 : Nat) (d : Dsk) (lv sv : Value) (used : Int) (w : World) (h : DiskAt w g d lv sv) (hb0 : w.heap[b0]? = some (.cells #[dp g] 25 (0, 0))) (b1 : Nat) (bv : Value) (bs : List Int) (hb1 : w.heap[b1]? = some (.cells #[bv] 31 (0, 0))) (hbs : Slc0 w bv bs) (hbl : d.log.length + bs.length ≤ 1099511627776) (hk : Ok d) :
    Calls Try.prog 26 #[dp g, .int .i64 used, .bool true, .func (.func 27) #[] #[.pointer (some ⟨b0, 0, none⟩), .pointer (some ⟨b1, 0, none⟩)]] w (OpPost w g (opR (appD · bs) true d used).1 (opR (appD · bs) true d used).2) := by
  unfold opR
  cases ho : d.off with
  | true => exact operate_off g d lv sv used _ _ w h hk.room0 ho
  | false =>
    by_cases hu : d.room < used
    · rw [if_neg (by simp), if_pos hu]
      exact operate_full g d lv sv used _ _ w h hk.room0 ho hu
    · rw [if_neg (by simp), if_neg hu]
      by_cases hf : d.fuse = 0
      · rw [if_pos hf]
        exact operate_app_z g b0 d lv sv used w h hb0 b1 bv bs hb1 hbs hbl hk.room0 ho (by omega) hf hk.fuse0 hk.fuse1
      · rw [if_neg hf]
        exact operate_app_go g b0 d lv sv used w h hb0 b1 bv bs hb1 hbs hbl hk.room0 ho (by omega) hf hk.fuse0 hk.fuse1
theorem operate_sync (g b0 : Nat) (d : Dsk) (lv sv : Value) (used : Int) (w : World) (h : DiskAt w g d lv sv) (hb0 : w.heap[b0]? = some (.cells #[dp g] 25 (0, 0))) (hk : Ok d) :
    Calls Try.prog 26 #[dp g, .int .i64 used, .bool false, .func (.func 28) #[] #[.pointer (some ⟨b0, 0, none⟩)]] w (OpPost w g (opR syncD false d used).1 (opR syncD false d used).2) := by
  unfold opR
  cases ho : d.off with
  | true => exact operate_off g d lv sv used _ _ w h hk.room0 ho
  | false =>
    by_cases hu : d.room < used
    · rw [if_neg (by simp), if_pos hu]
      exact operate_full g d lv sv used _ _ w h hk.room0 ho hu
    · rw [if_neg (by simp), if_neg hu]
      by_cases hf : d.fuse = 0
      · rw [if_pos hf]
        exact operate_stop g d lv sv used _ w h hk.room0 ho (by omega) hf
      · rw [if_neg hf]
        exact operate_sync_go g b0 d lv sv used w h hb0 hk.room0 ho (by omega) hf hk.fuse0 hk.fuse1
theorem operate_swap (g b0 : Nat) (d : Dsk) (lv sv : Value) (used : Int) (w : World) (h : DiskAt w g d lv sv) (hb0 : w.heap[b0]? = some (.cells #[dp g] 25 (0, 0))) (b1 : Nat) (bv : Value) (bs : List Int) (hb1 : w.heap[b1]? = some (.cells #[bv] 31 (0, 0))) (hbs : Slc0 w bv bs) (hbl : bs.length ≤ 1099511627776) (hk : Ok d) :
    Calls Try.prog 26 #[dp g, .int .i64 used, .bool false, .func (.func 29) #[] #[.pointer (some ⟨b1, 0, none⟩), .pointer (some ⟨b0, 0, none⟩)]] w (OpPost w g (opR (swapD · bs) false d used).1 (opR (swapD · bs) false d used).2) := by
  unfold opR
  cases ho : d.off with
  | true => exact operate_off g d lv sv used _ _ w h hk.room0 ho
  | false =>
    by_cases hu : d.room < used
    · rw [if_neg (by simp), if_pos hu]
      exact operate_full g d lv sv used _ _ w h hk.room0 ho hu
    · rw [if_neg (by simp), if_neg hu]
      by_cases hf : d.fuse = 0
      · rw [if_pos hf]
        exact operate_stop g d lv sv used _ w h hk.room0 ho (by omega) hf
      · rw [if_neg hf]
        exact operate_swap_go g b0 d lv sv used w h hb0 b1 bv bs hb1 hbs hbl hk.room0 ho (by omega) hf hk.fuse0 hk.fuse1
theorem operate_clear (g b0 : Nat) (d : Dsk) (lv sv : Value) (used : Int) (w : World) (h : DiskAt w g d lv sv) (hb0 : w.heap[b0]? = some (.cells #[dp g] 25 (0, 0))) (hk : Ok d) :
    Calls Try.prog 26 #[dp g, .int .i64 used, .bool false, .func (.func 31) #[] #[.pointer (some ⟨b0, 0, none⟩)]] w (OpPost w g (opR clearD false d used).1 (opR clearD false d used).2) := by
  unfold opR
  cases ho : d.off with
  | true => exact operate_off g d lv sv used _ _ w h hk.room0 ho
  | false =>
    by_cases hu : d.room < used
    · rw [if_neg (by simp), if_pos hu]
      exact operate_full g d lv sv used _ _ w h hk.room0 ho hu
    · rw [if_neg (by simp), if_neg hu]
      by_cases hf : d.fuse = 0
      · rw [if_pos hf]
        exact operate_stop g d lv sv used _ w h hk.room0 ho (by omega) hf
      · rw [if_neg hf]
        exact operate_clear_go g b0 d lv sv used w h hb0 hk.room0 ho (by omega) hf hk.fuse0 hk.fuse1
attribute [local irreducible] opR
set_option maxRecDepth 100000 in
set_option maxHeartbeats 4000000 in
theorem append_any (g : Nat) (d : Dsk) (lv sv bv : Value) (bs : List Int) (w : World) (h : DiskAt w g d lv sv) (hbs : Slc0 w bv bs) (hk : Ok d) (hbl : bs.length ≤ 1000000) :
    Calls Try.prog 12 #[dp g, bv] w (OpPost w g (opR (appD · bs) true d ((d.log.length : Int) + d.snap.length + bs.length)).1 (opR (appD · bs) true d ((d.log.length : Int) + d.snap.length + bs.length)).2) := by
  obtain ⟨A, c, rfl, hc1, hc2, hc3, hc4⟩ := id hbs
  clear hc3 hc4
  have hg := heap_lt h.blk
  have hkr := hk.room0
  have hkr1 := hk.room1
  have hkf := hk.full
  have hb0 : ((w.alloc (.cells #[dp g] 25)).alloc (.cells #[.slice A bs.length c] 31)).heap[w.heap.size]? = some (.cells #[dp g] 25 (0, 0)) := (heap_alloc_old _ _ (by simp)).trans (heap_alloc_new w _)
  have hb1 : ((w.alloc (.cells #[dp g] 25)).alloc (.cells #[.slice A bs.length c] 31)).heap[w.heap.size + 1]? = some (.cells #[.slice A bs.length c] 31 (0, 0)) := heap_new_at (by simp)
  have hBW : Below w.heap.size w ((w.alloc (.cells #[dp g] 25)).alloc (.cells #[.slice A bs.length c] 31)) := below_alloc (below_alloc (Below.refl _ _) _) _
  go_enter Try.func12, Try.ntmps12
  go_wp2
  refine drawn_phi (w := ((w.alloc (.cells #[dp g] 25)).alloc (.cells #[.slice A bs.length c] 31))) ([Fv (dp g), Fv (dp g), Fv (.int .i64 ((d.log.length : Int) + d.snap.length)), Fv (.slice A bs.length c), Fv (.int .i64 bs.length), Fv (.int .i64 ((d.log.length : Int) + d.snap.length + bs.length)), Fv (.func (.func 27) #[] #[.pointer (some ⟨w.heap.size, 0, none⟩), .pointer (some ⟨w.heap.size + 1, 0, none⟩)])] : List (Value → World → Prop)) (by kernel_rfl) (by kernel_rfl) (by kernel_rfl) ?_ ?_ ?_
  · intro i_ F_ hi
    have hl := (List.getElem?_eq_some_iff.1 hi).1
    rcases (show i_ = 0 ∨ i_ = 1 ∨ i_ = 2 ∨ i_ = 3 ∨ i_ = 4 ∨ i_ = 5 ∨ i_ = 6 by simp at hl; omega) with rfl | rfl | rfl | rfl | rfl | rfl | rfl
    · obtain rfl := Option.some.inj (show some (Fv (dp g)) = some F_ from hi)
      exact mono_v _
    · obtain rfl := Option.some.inj (show some (Fv (dp g)) = some F_ from hi)
      exact mono_v _
    · obtain rfl := Option.some.inj (show some (Fv (.int .i64 ((d.log.length : Int) + d.snap.length))) = some F_ from hi)
      exact mono_v _
    · obtain rfl := Option.some.inj (show some (Fv (.slice A bs.length c)) = some F_ from hi)
      exact mono_v _
    · obtain rfl := Option.some.inj (show some (Fv (.int .i64 bs.length)) = some F_ from hi)
      exact mono_v _
    · obtain rfl := Option.some.inj (show some (Fv (.int .i64 ((d.log.length : Int) + d.snap.length + bs.length))) = some F_ from hi)
      exact mono_v _
    · obtain rfl := Option.some.inj (show some (Fv (.func (.func 27) #[] #[.pointer (some ⟨w.heap.size, 0, none⟩), .pointer (some ⟨w.heap.size + 1, 0, none⟩)])) = some F_ from hi)
      exact mono_v _
  · intro i_ F_ hi a_ W hs ho hB
    have hl := (List.getElem?_eq_some_iff.1 hi).1
    rcases (show i_ = 0 ∨ i_ = 1 ∨ i_ = 2 ∨ i_ = 3 ∨ i_ = 4 ∨ i_ = 5 ∨ i_ = 6 by simp at hl; omega) with rfl | rfl | rfl | rfl | rfl | rfl | rfl
    · obtain rfl := Option.some.inj (show some (Fv (dp g)) = some F_ from hi)
      clear hi hl
      have e2 : a_.tmps[2]? = some (.pointer (some ⟨w.heap.size, 0, none⟩)) := (ho 2 (by kernel_rfl)).trans rfl
      refine ⟨_, rfl, fun KR hKR => ?_⟩
      rw [if_pos (show Region.wanted _ _ = true from rfl)]
      exact wp_load_cell 25 (.tmp 2) rfl w.heap.size 0 (by simp [Act.eval, e2]) _ _ (0, 0) _ _ ((hB.block _ (heap_lt hb0)).trans hb0) rfl Try.underlying25 rfl (hKR _ _ rfl (Below.refl _ _))
    · obtain rfl := Option.some.inj (show some (Fv (dp g)) = some F_ from hi)
      clear hi hl
      have e2 : a_.tmps[2]? = some (.pointer (some ⟨w.heap.size, 0, none⟩)) := (ho 2 (by kernel_rfl)).trans rfl
      refine ⟨_, rfl, fun KR hKR => ?_⟩
      rw [if_pos (show Region.wanted _ _ = true from rfl)]
      exact wp_load_cell 25 (.tmp 2) rfl w.heap.size 0 (by simp [Act.eval, e2]) _ _ (0, 0) _ _ ((hB.block _ (heap_lt hb0)).trans hb0) rfl Try.underlying25 rfl (hKR _ _ rfl (Below.refl _ _))
    · obtain rfl := Option.some.inj (show some (Fv (.int .i64 ((d.log.length : Int) + d.snap.length))) = some F_ from hi)
      clear hi hl
      obtain ⟨x6, e6, rfl⟩ := hs 1 (by kernel_rfl) (Fv (dp g)) rfl 6 rfl
      refine ⟨_, rfl, fun KR hKR => ?_⟩
      rw [if_pos (show Region.wanted _ _ = true from rfl)]
      clear hs ho
      (go_simp; (go_at_call 23; refine (used_below g d lv sv _ (h.below (bel hBW hB)) hk.room0 (by omega)).mono ?_; rintro e w1 ⟨rfl, hb⟩); exact hKR _ _ rfl hb)
    · obtain rfl := Option.some.inj (show some (Fv (.slice A bs.length c)) = some F_ from hi)
      clear hi hl
      have e3 : a_.tmps[3]? = some (.pointer (some ⟨w.heap.size + 1, 0, none⟩)) := (ho 3 (by kernel_rfl)).trans rfl
      refine ⟨_, rfl, fun KR hKR => ?_⟩
      rw [if_pos (show Region.wanted _ _ = true from rfl)]
      exact wp_load_cell 31 (.tmp 3) rfl (w.heap.size + 1) 0 (by simp [Act.eval, e3]) _ _ (0, 0) _ _ ((hB.block _ (heap_lt hb1)).trans hb1) rfl Try.underlying31 rfl (hKR _ _ rfl (Below.refl _ _))
    · obtain rfl := Option.some.inj (show some (Fv (.int .i64 bs.length)) = some F_ from hi)
      clear hi hl
      obtain ⟨x8, e8, rfl⟩ := hs 3 (by kernel_rfl) (Fv (.slice A bs.length c)) rfl 8 rfl
      refine ⟨_, rfl, fun KR hKR => ?_⟩
      rw [if_pos (show Region.wanted _ _ = true from rfl)]
      clear hs ho
      go_simp
      exact hKR _ _ rfl (Below.refl _ _)
    · obtain rfl := Option.some.inj (show some (Fv (.int .i64 ((d.log.length : Int) + d.snap.length + bs.length))) = some F_ from hi)
      clear hi hl
      obtain ⟨x7, e7, rfl⟩ := hs 2 (by kernel_rfl) (Fv (.int .i64 ((d.log.length : Int) + d.snap.length))) rfl 7 rfl
      obtain ⟨x9, e9, rfl⟩ := hs 4 (by kernel_rfl) (Fv (.int .i64 bs.length)) rfl 9 rfl
      refine ⟨_, rfl, fun KR hKR => ?_⟩
      rw [if_pos (show Region.wanted _ _ = true from rfl)]
      clear hs ho
      (go_simp; rw [show IntKind.i64.wrap ((d.log.length : Int) + d.snap.length + bs.length) = (d.log.length : Int) + d.snap.length + bs.length from w_in (by omega) (by omega)]; exact hKR _ _ rfl (Below.refl _ _))
    · obtain rfl := Option.some.inj (show some (Fv (.func (.func 27) #[] #[.pointer (some ⟨w.heap.size, 0, none⟩), .pointer (some ⟨w.heap.size + 1, 0, none⟩)])) = some F_ from hi)
      clear hi hl
      have e2 : a_.tmps[2]? = some (.pointer (some ⟨w.heap.size, 0, none⟩)) := (ho 2 (by kernel_rfl)).trans rfl
      have e3 : a_.tmps[3]? = some (.pointer (some ⟨w.heap.size + 1, 0, none⟩)) := (ho 3 (by kernel_rfl)).trans rfl
      refine ⟨_, rfl, fun KR hKR => ?_⟩
      rw [if_pos (show Region.wanted _ _ = true from rfl)]
      clear hs ho
      go_simp
      exact hKR _ _ rfl (Below.refl _ _)
  · intro vals_ W hv hB
    have v0 : vals_ 0 = dp g := hv 0 _ rfl
    have v1 : vals_ 1 = dp g := hv 1 _ rfl
    have v2 : vals_ 2 = .int .i64 ((d.log.length : Int) + d.snap.length) := hv 2 _ rfl
    have v3 : vals_ 3 = .slice A bs.length c := hv 3 _ rfl
    have v4 : vals_ 4 = .int .i64 bs.length := hv 4 _ rfl
    have v5 : vals_ 5 = .int .i64 ((d.log.length : Int) + d.snap.length + bs.length) := hv 5 _ rfl
    have v6 : vals_ 6 = .func (.func 27) #[] #[.pointer (some ⟨w.heap.size, 0, none⟩), .pointer (some ⟨w.heap.size + 1, 0, none⟩)] := hv 6 _ rfl
    simp only [List.length_cons, List.length_nil, Nat.zero_add, Nat.reduceAdd, List.size_toArray, slots, if_true, dstOf, List.getElem?_toArray, List.getElem?_cons_zero, List.getElem?_cons_succ, Option.bind_some, Act.put, List.setIfInBounds_toArray, List.set_cons_zero, List.set_cons_succ, v0, v1, v2, v3, v4, v5, v6]
    clear hv v0 v1 v2 v3 v4 v5 v6
    change wpAny _ _ _ _ 2 _ _ _
    refine wpAny_ready (rs := [7]) (by kernel_rfl) (by simp) ?_
    refine AllReady.cons (o := { dst := some 12, op := Go.Op.call { callee := Go.Callee.value (Go.Operand.func 26), args := #[Go.Operand.tmp 5, Go.Operand.tmp 10, Go.Operand.const (Go.Value.bool true), Go.Operand.tmp 11], argTypes := #[25, 3, 4, 1] }, type := 26, pos := "disk.go:53", after := #[{ on := 0, ground := Go.Ground.data }, { on := 5, ground := Go.Ground.data }, { on := 6, ground := Go.Ground.data }, { on := 2, ground := Go.Ground.chain }], guard := none }) rfl (fun KR hKR => ?_) AllReady.nil
    rw [if_pos (show Region.wanted _ _ = true from rfl)]
    go_simp; (go_at_call 26; refine (operate_app g w.heap.size d lv sv _ _ (h.below (bel hBW hB)) ((hB.block _ (heap_lt hb0)).trans hb0) (w.heap.size + 1) _ bs ((hB.block _ (heap_lt hb1)).trans hb1) (hbs.below (bel hBW hB)) (by omega) hk).mono ?_; rintro e w3 ⟨rfl, hD3, hO3⟩); refine hKR _ _ ?_; clear hKR KR; (try simp only [Act.put, List.setIfInBounds_toArray, List.set_cons_zero, List.set_cons_succ])
    refine wpAny_ready (rs := [8]) (by kernel_rfl) (by simp) ?_
    refine AllReady.cons (o := { dst := some 4, op := Go.Op.assign (Go.Operand.tmp 12), type := 26, pos := "disk.go:53", after := #[{ on := 7, ground := Go.Ground.data }, { on := 7, ground := Go.Ground.chain }, { on := 0, ground := Go.Ground.phase }, { on := 1, ground := Go.Ground.phase }, { on := 2, ground := Go.Ground.phase }, { on := 3, ground := Go.Ground.phase }, { on := 4, ground := Go.Ground.phase }, { on := 5, ground := Go.Ground.phase }, { on := 6, ground := Go.Ground.phase }, { on := 7, ground := Go.Ground.phase }], guard := none }) rfl (fun KR hKR => ?_) AllReady.nil
    go_simp
    refine hKR _ _ ?_
    clear hKR KR
    (try simp only [Act.put, List.setIfInBounds_toArray, List.set_cons_zero, List.set_cons_succ])
    refine wpAny_done (by kernel_rfl) ?_ _
    go_wp2
    go_ret
    exact ⟨rfl, hD3, (Only.of_below (bel hBW hB) hg).trans hO3⟩
set_option maxRecDepth 100000 in
set_option maxHeartbeats 4000000 in
theorem append_dead (p bv : Value) (bs : List Int) (w : World) (h : Dead w p) (hbs : Slc0 w bv bs) (hbl : bs.length ≤ 1000000) :
    Calls Try.prog 12 #[p, bv] w fun e w' => e = .returned (.int .i64 1) ∧ Below w.heap.size w w' := by
  obtain ⟨A, c, rfl, hc1, hc2, hc3, hc4⟩ := id hbs
  clear hc3 hc4
  obtain ⟨q, rfl⟩ := h.ptr
  have H := Lib.hid h
  clear h
  have hb0 : ((w.alloc (.cells #[.pointer q] 25)).alloc (.cells #[.slice A bs.length c] 31)).heap[w.heap.size]? = some (.cells #[.pointer q] 25 (0, 0)) := (heap_alloc_old _ _ (by simp)).trans (heap_alloc_new w _)
  have hb1 : ((w.alloc (.cells #[.pointer q] 25)).alloc (.cells #[.slice A bs.length c] 31)).heap[w.heap.size + 1]? = some (.cells #[.slice A bs.length c] 31 (0, 0)) := heap_new_at (by simp)
  have hBW : Below w.heap.size w ((w.alloc (.cells #[.pointer q] 25)).alloc (.cells #[.slice A bs.length c] 31)) := below_alloc (below_alloc (Below.refl _ _) _) _
  go_enter Try.func12, Try.ntmps12
  go_wp2
  refine drawn_phi (w := ((w.alloc (.cells #[.pointer q] 25)).alloc (.cells #[.slice A bs.length c] 31))) ([Fv (.pointer q), Fv (.pointer q), Fv (.int .i64 (0)), Fv (.slice A bs.length c), Fv (.int .i64 bs.length), Fv (.int .i64 bs.length), Fv (.func (.func 27) #[] #[.pointer (some ⟨w.heap.size, 0, none⟩), .pointer (some ⟨w.heap.size + 1, 0, none⟩)])] : List (Value → World → Prop)) (by kernel_rfl) (by kernel_rfl) (by kernel_rfl) ?_ ?_ ?_
  · intro i_ F_ hi
    have hl := (List.getElem?_eq_some_iff.1 hi).1
    rcases (show i_ = 0 ∨ i_ = 1 ∨ i_ = 2 ∨ i_ = 3 ∨ i_ = 4 ∨ i_ = 5 ∨ i_ = 6 by simp at hl; omega) with rfl | rfl | rfl | rfl | rfl | rfl | rfl
    · obtain rfl := Option.some.inj (show some (Fv (.pointer q)) = some F_ from hi)
      exact mono_v _
    · obtain rfl := Option.some.inj (show some (Fv (.pointer q)) = some F_ from hi)
      exact mono_v _
    · obtain rfl := Option.some.inj (show some (Fv (.int .i64 (0))) = some F_ from hi)
      exact mono_v _
    · obtain rfl := Option.some.inj (show some (Fv (.slice A bs.length c)) = some F_ from hi)
      exact mono_v _
    · obtain rfl := Option.some.inj (show some (Fv (.int .i64 bs.length)) = some F_ from hi)
      exact mono_v _
    · obtain rfl := Option.some.inj (show some (Fv (.int .i64 bs.length)) = some F_ from hi)
      exact mono_v _
    · obtain rfl := Option.some.inj (show some (Fv (.func (.func 27) #[] #[.pointer (some ⟨w.heap.size, 0, none⟩), .pointer (some ⟨w.heap.size + 1, 0, none⟩)])) = some F_ from hi)
      exact mono_v _
  · intro i_ F_ hi a_ W hs ho hB
    have hl := (List.getElem?_eq_some_iff.1 hi).1
    rcases (show i_ = 0 ∨ i_ = 1 ∨ i_ = 2 ∨ i_ = 3 ∨ i_ = 4 ∨ i_ = 5 ∨ i_ = 6 by simp at hl; omega) with rfl | rfl | rfl | rfl | rfl | rfl | rfl
    · obtain rfl := Option.some.inj (show some (Fv (.pointer q)) = some F_ from hi)
      clear hi hl
      have e2 : a_.tmps[2]? = some (.pointer (some ⟨w.heap.size, 0, none⟩)) := (ho 2 (by kernel_rfl)).trans rfl
      refine ⟨_, rfl, fun KR hKR => ?_⟩
      rw [if_pos (show Region.wanted _ _ = true from rfl)]
      exact wp_load_cell 25 (.tmp 2) rfl w.heap.size 0 (by simp [Act.eval, e2]) _ _ (0, 0) _ _ ((hB.block _ (heap_lt hb0)).trans hb0) rfl Try.underlying25 rfl (hKR _ _ rfl (Below.refl _ _))
    · obtain rfl := Option.some.inj (show some (Fv (.pointer q)) = some F_ from hi)
      clear hi hl
      have e2 : a_.tmps[2]? = some (.pointer (some ⟨w.heap.size, 0, none⟩)) := (ho 2 (by kernel_rfl)).trans rfl
      refine ⟨_, rfl, fun KR hKR => ?_⟩
      rw [if_pos (show Region.wanted _ _ = true from rfl)]
      exact wp_load_cell 25 (.tmp 2) rfl w.heap.size 0 (by simp [Act.eval, e2]) _ _ (0, 0) _ _ ((hB.block _ (heap_lt hb0)).trans hb0) rfl Try.underlying25 rfl (hKR _ _ rfl (Below.refl _ _))
    · obtain rfl := Option.some.inj (show some (Fv (.int .i64 (0))) = some F_ from hi)
      clear hi hl
      obtain ⟨x6, e6, rfl⟩ := hs 1 (by kernel_rfl) (Fv (.pointer q)) rfl 6 rfl
      refine ⟨_, rfl, fun KR hKR => ?_⟩
      rw [if_pos (show Region.wanted _ _ = true from rfl)]
      clear hs ho
      (go_simp; (go_at_call 23; refine (((used_dead _ _ (H.out.below (bel hBW hB))).mono fun e w' (x : e = .returned (.int .i64 0) ∧ _ = w') => (⟨x.1, x.2 ▸ Below.refl _ _⟩ : e = .returned (.int .i64 0) ∧ Below W.heap.size W w'))).mono ?_; rintro e w1 ⟨rfl, hb⟩); exact hKR _ _ rfl hb)
    · obtain rfl := Option.some.inj (show some (Fv (.slice A bs.length c)) = some F_ from hi)
      clear hi hl
      have e3 : a_.tmps[3]? = some (.pointer (some ⟨w.heap.size + 1, 0, none⟩)) := (ho 3 (by kernel_rfl)).trans rfl
      refine ⟨_, rfl, fun KR hKR => ?_⟩
      rw [if_pos (show Region.wanted _ _ = true from rfl)]
      exact wp_load_cell 31 (.tmp 3) rfl (w.heap.size + 1) 0 (by simp [Act.eval, e3]) _ _ (0, 0) _ _ ((hB.block _ (heap_lt hb1)).trans hb1) rfl Try.underlying31 rfl (hKR _ _ rfl (Below.refl _ _))
    · obtain rfl := Option.some.inj (show some (Fv (.int .i64 bs.length)) = some F_ from hi)
      clear hi hl
      obtain ⟨x8, e8, rfl⟩ := hs 3 (by kernel_rfl) (Fv (.slice A bs.length c)) rfl 8 rfl
      refine ⟨_, rfl, fun KR hKR => ?_⟩
      rw [if_pos (show Region.wanted _ _ = true from rfl)]
      clear hs ho
      go_simp
      exact hKR _ _ rfl (Below.refl _ _)
    · obtain rfl := Option.some.inj (show some (Fv (.int .i64 bs.length)) = some F_ from hi)
      clear hi hl
      obtain ⟨x7, e7, rfl⟩ := hs 2 (by kernel_rfl) (Fv (.int .i64 (0))) rfl 7 rfl
      obtain ⟨x9, e9, rfl⟩ := hs 4 (by kernel_rfl) (Fv (.int .i64 bs.length)) rfl 9 rfl
      refine ⟨_, rfl, fun KR hKR => ?_⟩
      rw [if_pos (show Region.wanted _ _ = true from rfl)]
      clear hs ho
      (go_simp; rw [show IntKind.i64.wrap (bs.length : Int) = (bs.length : Int) from w_in (by omega) (by omega)]; exact hKR _ _ rfl (Below.refl _ _))
    · obtain rfl := Option.some.inj (show some (Fv (.func (.func 27) #[] #[.pointer (some ⟨w.heap.size, 0, none⟩), .pointer (some ⟨w.heap.size + 1, 0, none⟩)])) = some F_ from hi)
      clear hi hl
      have e2 : a_.tmps[2]? = some (.pointer (some ⟨w.heap.size, 0, none⟩)) := (ho 2 (by kernel_rfl)).trans rfl
      have e3 : a_.tmps[3]? = some (.pointer (some ⟨w.heap.size + 1, 0, none⟩)) := (ho 3 (by kernel_rfl)).trans rfl
      refine ⟨_, rfl, fun KR hKR => ?_⟩
      rw [if_pos (show Region.wanted _ _ = true from rfl)]
      clear hs ho
      go_simp
      exact hKR _ _ rfl (Below.refl _ _)
  · intro vals_ W hv hB
    have v0 : vals_ 0 = .pointer q := hv 0 _ rfl
    have v1 : vals_ 1 = .pointer q := hv 1 _ rfl
    have v2 : vals_ 2 = .int .i64 (0) := hv 2 _ rfl
    have v3 : vals_ 3 = .slice A bs.length c := hv 3 _ rfl
    have v4 : vals_ 4 = .int .i64 bs.length := hv 4 _ rfl
    have v5 : vals_ 5 = .int .i64 bs.length := hv 5 _ rfl
    have v6 : vals_ 6 = .func (.func 27) #[] #[.pointer (some ⟨w.heap.size, 0, none⟩), .pointer (some ⟨w.heap.size + 1, 0, none⟩)] := hv 6 _ rfl
    simp only [List.length_cons, List.length_nil, Nat.zero_add, Nat.reduceAdd, List.size_toArray, slots, if_true, dstOf, List.getElem?_toArray, List.getElem?_cons_zero, List.getElem?_cons_succ, Option.bind_some, Act.put, List.setIfInBounds_toArray, List.set_cons_zero, List.set_cons_succ, v0, v1, v2, v3, v4, v5, v6]
    clear hv v0 v1 v2 v3 v4 v5 v6
    change wpAny _ _ _ _ 2 _ _ _
    refine wpAny_ready (rs := [7]) (by kernel_rfl) (by simp) ?_
    refine AllReady.cons (o := { dst := some 12, op := Go.Op.call { callee := Go.Callee.value (Go.Operand.func 26), args := #[Go.Operand.tmp 5, Go.Operand.tmp 10, Go.Operand.const (Go.Value.bool true), Go.Operand.tmp 11], argTypes := #[25, 3, 4, 1] }, type := 26, pos := "disk.go:53", after := #[{ on := 0, ground := Go.Ground.data }, { on := 5, ground := Go.Ground.data }, { on := 6, ground := Go.Ground.data }, { on := 2, ground := Go.Ground.chain }], guard := none }) rfl (fun KR hKR => ?_) AllReady.nil
    rw [if_pos (show Region.wanted _ _ = true from rfl)]
    go_simp; (go_at_call 26; refine (operate_dead _ _ _ _ _ (H.out.below (bel hBW hB))).mono ?_; rintro e w3 ⟨rfl, rfl⟩); refine hKR _ _ ?_; clear hKR KR; (try simp only [Act.put, List.setIfInBounds_toArray, List.set_cons_zero, List.set_cons_succ])
    refine wpAny_ready (rs := [8]) (by kernel_rfl) (by simp) ?_
    refine AllReady.cons (o := { dst := some 4, op := Go.Op.assign (Go.Operand.tmp 12), type := 26, pos := "disk.go:53", after := #[{ on := 7, ground := Go.Ground.data }, { on := 7, ground := Go.Ground.chain }, { on := 0, ground := Go.Ground.phase }, { on := 1, ground := Go.Ground.phase }, { on := 2, ground := Go.Ground.phase }, { on := 3, ground := Go.Ground.phase }, { on := 4, ground := Go.Ground.phase }, { on := 5, ground := Go.Ground.phase }, { on := 6, ground := Go.Ground.phase }, { on := 7, ground := Go.Ground.phase }], guard := none }) rfl (fun KR hKR => ?_) AllReady.nil
    go_simp
    refine hKR _ _ ?_
    clear hKR KR
    (try simp only [Act.put, List.setIfInBounds_toArray, List.set_cons_zero, List.set_cons_succ])
    refine wpAny_done (by kernel_rfl) ?_ _
    go_wp2
    go_ret
    exact ⟨rfl, bel hBW hB⟩
theorem sync_any (g : Nat) (d : Dsk) (lv sv : Value) (w : World) (h : DiskAt w g d lv sv) (hk : Ok d) : Calls Try.prog 13 #[dp g] w (OpPost w g (opR syncD false d 0).1 (opR syncD false d 0).2) := by
  have hb0 : (w.alloc (.cells #[dp g] 25)).heap[w.heap.size]? = some (.cells #[dp g] 25 (0, 0)) := heap_alloc_new w _
  have hBW : Below w.heap.size w (w.alloc (.cells #[dp g] 25)) := below_alloc (Below.refl _ _) _
  have hg := heap_lt h.blk
  have HB0 := Lib.hid hb0
  have H := Lib.hid h
  clear hb0 h
  go_enter Try.func13, Try.ntmps13
  go_wp2_with (go_at_call 26; refine (operate_sync g w.heap.size d lv sv _ _ (H.out.below hBW) HB0.out hk).mono ?_; rintro e w3 ⟨rfl, hD3, hO3⟩; have hD3 := Lib.hid hD3; have hO3 := Lib.hid hO3)
  go_ret
  exact ⟨rfl, hD3.out, (Only.of_below hBW hg).trans hO3.out⟩
theorem sync_dead (p : Value) (w : World) (h : Dead w p) : Calls Try.prog 13 #[p] w fun e w' => e = .returned (.int .i64 1) ∧ Below w.heap.size w w' := by
  obtain ⟨q, rfl⟩ := h.ptr
  have hBW : Below w.heap.size w (w.alloc (.cells #[.pointer q] 25)) := below_alloc (Below.refl _ _) _
  have H := Lib.hid (h.below hBW)
  clear h
  go_enter Try.func13, Try.ntmps13
  go_wp2_with (go_at_call 26; refine (operate_dead _ _ _ _ _ H.out).mono ?_; rintro e w1 ⟨rfl, rfl⟩)
  go_ret
  exact ⟨rfl, hBW⟩
theorem clear_any (g : Nat) (d : Dsk) (lv sv : Value) (w : World) (h : DiskAt w g d lv sv) (hk : Ok d) : Calls Try.prog 15 #[dp g] w (OpPost w g (opR clearD false d 0).1 (opR clearD false d 0).2) := by
  have hb0 : (w.alloc (.cells #[dp g] 25)).heap[w.heap.size]? = some (.cells #[dp g] 25 (0, 0)) := heap_alloc_new w _
  have hBW : Below w.heap.size w (w.alloc (.cells #[dp g] 25)) := below_alloc (Below.refl _ _) _
  have hg := heap_lt h.blk
  have HB0 := Lib.hid hb0
  have H := Lib.hid h
  clear hb0 h
  go_enter Try.func15, Try.ntmps15
  go_wp2_with (go_at_call 26; refine (operate_clear g w.heap.size d lv sv _ _ (H.out.below hBW) HB0.out hk).mono ?_; rintro e w3 ⟨rfl, hD3, hO3⟩; have hD3 := Lib.hid hD3; have hO3 := Lib.hid hO3)
  go_ret
  exact ⟨rfl, hD3.out, (Only.of_below hBW hg).trans hO3.out⟩
theorem clear_dead (p : Value) (w : World) (h : Dead w p) : Calls Try.prog 15 #[p] w fun e w' => e = .returned (.int .i64 1) ∧ Below w.heap.size w w' := by
  obtain ⟨q, rfl⟩ := h.ptr
  have hBW : Below w.heap.size w (w.alloc (.cells #[.pointer q] 25)) := below_alloc (Below.refl _ _) _
  have H := Lib.hid (h.below hBW)
  clear h
  go_enter Try.func15, Try.ntmps15
  go_wp2_with (go_at_call 26; refine (operate_dead _ _ _ _ _ H.out).mono ?_; rintro e w1 ⟨rfl, rfl⟩)
  go_ret
  exact ⟨rfl, hBW⟩
theorem swap_any (g : Nat) (d : Dsk) (lv sv bv : Value) (bs : List Int) (w : World) (h : DiskAt w g d lv sv) (hbs : Slc0 w bv bs) (hk : Ok d) (hbl : bs.length ≤ 1000000) :
    Calls Try.prog 14 #[dp g, bv] w (OpPost w g (opR (swapD · bs) false d ((bs.length : Int) + d.log.length)).1 (opR (swapD · bs) false d ((bs.length : Int) + d.log.length)).2) := by
  obtain ⟨A, c, rfl, hc1, hc2, hc3, hc4⟩ := id hbs
  obtain ⟨A0, a0, rfl, hl1, hl2, hl3, hl4, hl5⟩ := id h.log
  clear hc3 hc4 hl3 hl4 hl5
  have hBW : Below w.heap.size w ((w.alloc (.cells #[dp g] 25)).alloc (.cells #[.slice A bs.length c] 31)) := below_alloc (below_alloc (Below.refl _ _) _) _
  have hb0 : ((w.alloc (.cells #[dp g] 25)).alloc (.cells #[.slice A bs.length c] 31)).heap[w.heap.size]? = some (.cells #[dp g] 25 (0, 0)) := (heap_alloc_old _ _ (by simp)).trans (heap_alloc_new w _)
  have hb1 : ((w.alloc (.cells #[dp g] 25)).alloc (.cells #[.slice A bs.length c] 31)).heap[w.heap.size + 1]? = some (.cells #[.slice A bs.length c] 31 (0, 0)) := heap_new_at (by simp)
  have hg := heap_lt h.blk
  have hkr := hk.room0
  have hkr1 := hk.room1
  have hkf := hk.full
  obtain ⟨⟨c0, c1, c2, c3, c4, c5⟩, f⟩ := (h.below hBW).cellsAt
  have HB0 := Lib.hid hb0
  have HB1 := Lib.hid hb1
  have H := Lib.hid h
  clear hb0 h hb1 c1 c2 c3 c4 c5
  go_enter Try.func14, Try.ntmps14
  go_wp2_with (first
    | (go_at_call 25; refine (none_no _ _ _ _ _ (H.out.below hBW) hk.room0).mono ?_; rintro e w1 ⟨rfl, rfl⟩)
    | (go_at_call 26; refine (operate_swap g w.heap.size d _ sv _ _ (H.out.below hBW) HB0.out (w.heap.size + 1) _ bs HB1.out (hbs.below hBW) (by omega) hk).mono ?_; rintro e w3 ⟨rfl, hD3, hO3⟩; have hD3 := Lib.hid hD3; have hO3 := Lib.hid hO3))
  go_ret
  exact ⟨rfl, hD3.out, (Only.of_below hBW hg).trans hO3.out⟩
theorem swap_dead (p bv : Value) (bs : List Int) (w : World) (h : Dead w p) (hbs : Slc0 w bv bs) (hbl : bs.length ≤ 1000000) : Calls Try.prog 14 #[p, bv] w fun e w' => e = .returned (.int .i64 1) ∧ Below w.heap.size w w' := by
  obtain ⟨A, c, rfl, hc1, hc2, hc3, hc4⟩ := id hbs
  clear hc3 hc4
  obtain ⟨q, rfl⟩ := h.ptr
  have hBW : Below w.heap.size w ((w.alloc (.cells #[.pointer q] 25)).alloc (.cells #[.slice A bs.length c] 31)) := below_alloc (below_alloc (Below.refl _ _) _) _
  have H := Lib.hid (h.below hBW)
  clear h
  go_enter Try.func14, Try.ntmps14
  go_wp2_with (first
    | (go_at_call 25; refine (none_dead _ _ H.out).mono ?_; rintro e w1 ⟨rfl, rfl⟩)
    | (go_at_call 26; refine (operate_dead _ _ _ _ _ H.out).mono ?_; rintro e w1 ⟨rfl, rfl⟩))
  go_ret
  exact ⟨rfl, hBW⟩
end Go.Proofs.Ythodclhemleeaaa
