/- queue.Queue's Push, Peek, Pop. -/
import Derived.Test.YtndfoohdoadkfaaQJ
set_option linter.unusedVariables false
set_option linter.unusedSimpArgs false
namespace Go.Proofs.Ytndfoohdoadkfaa
open Go.RowKit
/-- The world in Push's last region. -/
def QS1 (base gq b tx : Nat) (v : Value) (xs : List It) (x : It) (w : World) (t : Bool) (W : World) : Prop :=
  W.heap[tx]? = some (.cells (IS x) 40 (0, 0)) ∧ (match t with
    | false => QV W base gq b v xs ∧ Pq base b v w v W
    | true => ∃ v', QV W base gq b v' (pushL xs x) ∧ Pq base b v w v' W)
theorem QS1.blkq {base gq b tx : Nat} {v : Value} {xs : List It} {x : It} {w : World} {t : Bool} {W : World} (h : QS1 base gq b tx v xs x w t W) : W.heap[gq]? = some (.cells #[qp b] 49 (0, 0)) := by
  cases t with
  | false => exact h.2.1.q
  | true => obtain ⟨v', h1, _⟩ := h.2; exact h1.q
theorem QS1.blkx {base gq b tx : Nat} {v : Value} {xs : List It} {x : It} {w : World} {t : Bool} {W : World} (h : QS1 base gq b tx v xs x w t W) : W.heap[tx]? = some (.cells (IS x) 40 (0, 0)) := h.1
theorem QS1.push {base gq b tx : Nat} {v v' : Value} {xs : List It} {x : It} {w W W' : World} (h : QS1 base gq b tx v xs x w false W) (hp : PV W' base b v' (pushL xs x)) (hq : Pq base b v W v' W') (hb : tx ≠ b) (hown : v.ownBlock ≠ some tx) (hlt : True) : QS1 base gq b tx v xs x w true W' :=
  ⟨(hq.far tx (heap_lt h.1) hb hown).trans h.1, v', h.2.1.step hp hq, h.2.2.trans hq⟩
theorem mi40 {o : Oper} {a : Act} {W : World} {x : It} (ho : o.op = .makeInterface 40 (.tmp 22)) (hx : a.tmps[22]? = some (.agg (IS x))) : (execOp a.eval o).run Try.prog W = .ok (.value (.iface 40 (.agg (IS x)))) W := by
  unfold execOp
  simp only [ho]
  have e : a.eval (.tmp 22) = .agg (IS x) := by simp [Act.eval, hx]
  rw [e]
  rfl
theorem QV.rw {W W' : World} {base gq b t : Nat} {v : Value} {xs : List It} (h : QV W base gq b v xs) (r : Rw t W W') (h1 : t ≠ gq) (h2 : t ≠ b) (h3 : v.ownBlock ≠ some t) : QV W' base gq b v xs := by
  refine ⟨(r.far gq h1.symm).trans h.q, (r.far b h2.symm).trans h.pv.blk, h.pv.row.1, ?_⟩
  rcases h.pv.row.2 with e | ⟨g, cap, cur, rfl, hg, hh, q⟩
  · exact .inl e
  · exact .inr ⟨g, cap, cur, rfl, hg, (r.far g (fun e => h3 (by rw [← e]; rfl))).trans hh, q⟩
theorem Pq.rw {base b t : Nat} {v v' : Value} {w W W' : World} (h : Pq base b v w v' W) (r : Rw t W W') (ht : w.heap.size ≤ t) (hb : base ≤ w.heap.size) : Pq base b v w v' W' :=
  ⟨by have := h.size; have := r.size; omega, fun k hk hn hv => (r.far k (by omega)).trans (h.far k hk hn hv), h.own, fun B w0 h1 h2 h3 => r.bel B w0 (by omega) (h.bel B w0 h1 h2 h3)⟩
set_option maxHeartbeats 1000000 in
theorem d_push (p : Value) (x : It) (w : World) (h : QDead w p) : Calls Try.prog 15 #[p, .agg (IS x)] w fun e w' => e = .returned (.int .i64 1) ∧ Below w.heap.size w w' := by
  obtain ⟨q, rfl⟩ := h.ptr
  have H := Lib.hid (h.below (below_alloc (Below.refl w.heap.size w) (.cells (IS x) 40)))
  clear h
  go_enter Try.func15, Try.ntmps15
  go_wp2_with (first | (go_at_call 33; refine (d_none _ _ H.out).mono ?_; rintro e w1 ⟨rfl, rfl⟩))
  go_ret
  exact ⟨rfl, below_alloc (Below.refl _ _) _⟩
set_option maxRecDepth 10000 in
set_option maxHeartbeats 1000000 in
theorem q_push (base gq b : Nat) (v : Value) (xs : List It) (x : It) (w : World) (h : QV w base gq b v xs) (hbase : base ≤ w.heap.size) (hl : xs.length < 1048576) :
    Calls Try.prog 15 #[qp gq, .agg (IS x)] w fun e w' => e = .returned (.int .i64 0) ∧ ∃ v', QV w' base gq b v' (pushL xs x) ∧ Pq base b v w v' w' := by
  have hbl := heap_lt h.pv.blk
  have hbA := below_alloc (Below.refl w.heap.size w) (.cells (IS x) 40)
  have h1 := h.below hbA
  obtain ⟨A, c, hv, _⟩ := h.pv.shape
  have c0 : (w.alloc (.cells (IS x) 40)).cell? ⟨gq, 0, none⟩ = some (qp b) := cell_of_heap h1.q (j := 0) rfl
  have c1 : (w.alloc (.cells (IS x) 40)).cell? ⟨b, 0, none⟩ = some v := cell_of_heap h1.pv.blk (j := 0) rfl
  rw [hv] at c1
  have hown : v.ownBlock ≠ some w.heap.size := fun e => by have := (own_lt h.pv.row _ e).2; omega
  have hx : (w.alloc (.cells (IS x) 40)).heap[w.heap.size]? = some (.cells (IS x) 40 (0, 0)) := heap_alloc_new w _
  have HX := Lib.hid hx
  have H1 := Lib.hid h1
  have HO := Lib.hid hown
  have HQ := Lib.hid (Pq.of_below (base := base) (b := b) (v := v) hbA hbase)
  have hge : decide ((1048576 : Int) ≤ xs.length) = false := decide_eq_false (by omega)
  have HL := Lib.hid hl
  clear h h1 hx hbA hown hv hl
  go_enter Try.func15, Try.ntmps15
  go_wp2_with (first | (go_at_call 33; refine (q_none _ _ _ _ _ _ H1.out).mono ?_; rintro e w1 ⟨rfl, rfl⟩) | (go_at_call 34; refine (len_any _ _ _ _).mono ?_; rintro e w1 ⟨rfl, rfl⟩))
  obtain ⟨tx, htxe⟩ : ∃ tx, tx = w.heap.size := ⟨_, rfl⟩
  have hbw : tx ≠ b := by omega
  have hown := HO.out
  rw [← htxe] at HX hown ⊢
  have htx : True := trivial
  refine drawn_wv (w := (w.alloc (.cells (IS x) 40))) ([qp gq, qp gq, qp gq, qp b, .iface 47 (qp b), .agg (IS x), .iface 40 (.agg (IS x)), .tuple #[]] : List Value) 7 (QS1 base gq b tx v xs x w) (by kernel_rfl) (by kernel_rfl) (by kernel_rfl) (by kernel_rfl) (by decide) ?_ ?_ ?_
  · exact ⟨((Below.refl _ _).drew.block tx (heap_lt HX.out)).trans HX.out, H1.out.below (Below.refl _ _).drew, HQ.out.trans (Pq.of_below (Below.refl _ _).drew (Nat.le_trans hbase HQ.out.size))⟩
  · intro i_ v_ hi a_ W t_ ht1 ht2 hs ho hS
    have hl := (List.getElem?_eq_some_iff.1 hi).1
    rcases (show i_ = 0 ∨ i_ = 1 ∨ i_ = 2 ∨ i_ = 3 ∨ i_ = 4 ∨ i_ = 5 ∨ i_ = 6 ∨ i_ = 7 by simp at hl; omega) with rfl | rfl | rfl | rfl | rfl | rfl | rfl | rfl
    · obtain rfl : (qp gq : Value) = v_ := Option.some.inj (show some (qp gq : Value) = some v_ from hi)
      clear hi hl
      have e0 : a_.tmps[0]? = some (qp gq) := (ho 0 (by kernel_rfl)).trans rfl
      refine ⟨_, rfl, fun KR hKR => ?_⟩
      rw [if_pos (show Region.wanted _ _ = true from rfl)]
      clear hs ho
      (go_simp; exact hKR _ hS)
    · obtain rfl : (qp gq : Value) = v_ := Option.some.inj (show some (qp gq : Value) = some v_ from hi)
      clear hi hl
      have e17 : a_.tmps[17]? = some (qp gq) := hs 0 (by kernel_rfl) _ rfl 17 rfl
      refine ⟨_, rfl, fun KR hKR => ?_⟩
      rw [if_pos (show Region.wanted _ _ = true from rfl)]
      clear hs ho
      (go_simp; exact hKR _ hS)
    · obtain rfl : (qp gq : Value) = v_ := Option.some.inj (show some (qp gq : Value) = some v_ from hi)
      clear hi hl
      have e18 : a_.tmps[18]? = some (qp gq) := hs 1 (by kernel_rfl) _ rfl 18 rfl
      refine ⟨_, rfl, fun KR hKR => ?_⟩
      rw [if_pos (show Region.wanted _ _ = true from rfl)]
      clear hs ho
      (go_simp; exact hKR _ hS)
    · obtain rfl : (qp b : Value) = v_ := Option.some.inj (show some (qp b : Value) = some v_ from hi)
      clear hi hl
      have e19 : a_.tmps[19]? = some (qp gq) := hs 2 (by kernel_rfl) _ rfl 19 rfl
      refine ⟨_, rfl, fun KR hKR => ?_⟩
      rw [if_pos (show Region.wanted _ _ = true from rfl)]
      clear hs ho
      (have c0 : W.cell? ⟨gq, 0, none⟩ = some (qp b) := cell_of_heap hS.blkq (j := 0) rfl; go_simp; exact hKR _ hS)
    · obtain rfl : (.iface 47 (qp b) : Value) = v_ := Option.some.inj (show some (.iface 47 (qp b) : Value) = some v_ from hi)
      clear hi hl
      have e20 : a_.tmps[20]? = some (qp b) := hs 3 (by kernel_rfl) _ rfl 20 rfl
      refine ⟨_, rfl, fun KR hKR => ?_⟩
      rw [if_pos (show Region.wanted _ _ = true from rfl)]
      clear hs ho
      (go_simp; exact hKR _ hS)
    · obtain rfl : (.agg (IS x) : Value) = v_ := Option.some.inj (show some (.agg (IS x) : Value) = some v_ from hi)
      clear hi hl
      have e3 : a_.tmps[3]? = some (.pointer (some ⟨tx, 0, none⟩)) := (ho 3 (by kernel_rfl)).trans rfl
      refine ⟨_, rfl, fun KR hKR => ?_⟩
      rw [if_pos (show Region.wanted _ _ = true from rfl)]
      clear hs ho
      (refine wp_load_row 40 (.tmp 3) rfl _ (by simp [Act.eval, e3]) 40 _ (0, 0) _ hS.blkx Try.underlying40 rfl (info40 x) ?_; exact hKR _ hS)
    · obtain rfl : (.iface 40 (.agg (IS x)) : Value) = v_ := Option.some.inj (show some (.iface 40 (.agg (IS x)) : Value) = some v_ from hi)
      clear hi hl
      have e22 : a_.tmps[22]? = some (.agg (IS x)) := hs 5 (by kernel_rfl) _ rfl 22 rfl
      refine ⟨_, rfl, fun KR hKR => ?_⟩
      rw [if_pos (show Region.wanted _ _ = true from rfl)]
      clear hs ho
      (refine wp_of_run (mi40 rfl e22) ?_; exact hKR _ hS)
    · obtain rfl : (.tuple #[] : Value) = v_ := Option.some.inj (show some (.tuple #[] : Value) = some v_ from hi)
      clear hi hl
      have e21 : a_.tmps[21]? = some (.iface 47 (qp b)) := hs 4 (by kernel_rfl) _ rfl 21 rfl
      have e23 : a_.tmps[23]? = some (.iface 40 (.agg (IS x))) := hs 6 (by kernel_rfl) _ rfl 23 rfl
      refine ⟨_, rfl, fun KR hKR => ?_⟩
      rw [if_pos (show Region.wanted _ _ = true from rfl)]
      clear hs ho
      (obtain rfl := ht1 rfl; go_simp; (go_at_call 35; refine (hpush_any base b v xs x _ hS.2.1.pv (Nat.le_trans hbase hS.2.2.size) (by have := HL.out; omega)).mono ?_; rintro e w8 ⟨rfl, v8, hp8, hq8⟩); exact hKR _ (QS1.push hS hp8 hq8 hbw hown htx))
  · intro vals_ W hv hS
    have v0 : vals_ 0 = qp gq := hv 0 _ rfl
    have v1 : vals_ 1 = qp gq := hv 1 _ rfl
    have v2 : vals_ 2 = qp gq := hv 2 _ rfl
    have v3 : vals_ 3 = qp b := hv 3 _ rfl
    have v4 : vals_ 4 = .iface 47 (qp b) := hv 4 _ rfl
    have v5 : vals_ 5 = .agg (IS x) := hv 5 _ rfl
    have v6 : vals_ 6 = .iface 40 (.agg (IS x)) := hv 6 _ rfl
    have v7 : vals_ 7 = .tuple #[] := hv 7 _ rfl
    simp only [List.length_cons, List.length_nil, Nat.zero_add, Nat.reduceAdd, List.size_toArray, slots, if_true, dstOf, List.getElem?_toArray, List.getElem?_cons_zero, List.getElem?_cons_succ, Option.bind_some, Act.put, List.setIfInBounds_toArray, List.set_cons_zero, List.set_cons_succ, v0, v1, v2, v3, v4, v5, v6, v7]
    clear hv v0 v1 v2 v3 v4 v5 v6 v7
    change wpAny _ _ _ _ 0 _ _ _
    refine wpAny_done (by kernel_rfl) ?_ _
    obtain ⟨v9, h9, hq9⟩ := hS.2
    go_wp2
    go_ret
    exact ⟨rfl, v9, h9, hq9⟩
set_option maxHeartbeats 1000000 in
theorem q_peek (base gq b : Nat) (v : Value) (xs : List It) (w : World) (h : QV w base gq b v xs) (h0 : 0 < xs.length) : Calls Try.prog 13 #[qp gq] w fun e w' => e = .returned (.tuple #[.agg (IS (at_ xs 0)), .bool true]) ∧ Below w.heap.size w w' := by
  have hbA := below_alloc (Below.refl w.heap.size w) (.cells #[.int .i64 0, .int .i64 0, .int .i64 0] 40)
  have h1 := h.below hbA
  obtain ⟨A, c, rfl, hs⟩ := h.pv.shape
  obtain ⟨g, rfl, hg⟩ : ∃ g, A = some ⟨g, 0, none⟩ ∧ g < w.heap.size := by
    rcases hs with ⟨_, q, _⟩ | ⟨g, q1, _, _, q2, _⟩
    · omega
    · exact ⟨g, q1, q2⟩
  have hrg := row_range (k := 0) (x := at_ xs 0) h1.pv.row (at_get h0)
  have HG := Lib.hid hrg
  have c0 : (w.alloc (.cells #[.int .i64 0, .int .i64 0, .int .i64 0] 40)).cell? ⟨gq, 0, none⟩ = some (qp b) := cell_of_heap h1.q (j := 0) rfl
  have c1 : (w.alloc (.cells #[.int .i64 0, .int .i64 0, .int .i64 0] 40)).cell? ⟨b, 0, none⟩ = some (.slice (some ⟨g, 0, none⟩) xs.length c) := cell_of_heap h1.pv.blk (j := 0) rfl
  have H1 := Lib.hid h1
  have hne : ((xs.length : Int) == 0) = false := beq_eq_false_iff_ne.2 (by omega)
  clear h h1 hrg hs
  go_enter Try.func13, Try.ntmps13
  go_wp2_with (first
    | (go_at_call 16; refine (q_len _ _ _ _ _ _ H1.out).mono ?_; rintro e w1 ⟨rfl, rfl⟩)
    | (refine wpList_load_mid rfl 40 (.tmp 14) rfl g (0 * 3) rfl (IS (at_ xs 0)).toList _ HG.out Try.underlying40 rfl (info40 _) ?_)
    | (refine wpList_store_whole rfl 40 (.tmp 2) (.tmp 15) rfl w.heap.size (IS (at_ xs 0)) #[.int .i64 0, .int .i64 0, .int .i64 0] 40 rfl rfl (heap_alloc_new w _) rfl (info40 _) (by kernel_rfl) ?_; intro w2 hnew hsz hfar hbel; have HX := Lib.hid hnew; have hB := Lib.hid (hbel _ _ (Nat.le_refl _) (below_alloc (Below.refl w.heap.size w) _)); clear hnew hsz hfar hbel))
  have d0 : w2.cell? ⟨w.heap.size, 0, none⟩ = some (.int .i64 (at_ xs 0).t) := cell_of_heap HX.out (j := 0) rfl
  have d1 : w2.cell? ⟨w.heap.size, 1, none⟩ = some (.int .i64 (at_ xs 0).r) := cell_of_heap HX.out (j := 1) rfl
  have d2 : w2.cell? ⟨w.heap.size, 2, none⟩ = some (.int .i64 (at_ xs 0).g) := cell_of_heap HX.out (j := 2) rfl
  exact bodyPost_ret (v := .tuple #[.agg #[.int .i64 (at_ xs 0).t, .int .i64 (at_ xs 0).r, .int .i64 (at_ xs 0).g], .bool true]) (by simp [results, Try.results13, go_sem, *]) rfl ⟨rfl, hB.out⟩
set_option maxHeartbeats 1000000 in
theorem q_pop (base gq b : Nat) (v : Value) (xs : List It) (w : World) (h : QV w base gq b v xs) (hbase : base ≤ w.heap.size) (h0 : 0 < xs.length) (hl : xs.length ≤ 2000000) :
    Calls Try.prog 12 #[qp gq] w fun e w' => e = .returned (.tuple #[.agg (IS (at_ xs 0)), .bool true]) ∧ ∃ v', QV w' base gq b v' (popL xs) ∧ Pq base b v w v' w' := by
  have hbA := below_alloc (Below.refl w.heap.size w) (.cells #[.int .i64 0, .int .i64 0, .int .i64 0] 40)
  have hgl := heap_lt h.pv.blk
  have hgql := heap_lt h.q
  have hown : ∀ k, v.ownBlock = some k → k < w.heap.size := fun k hk => (own_lt h.pv.row k hk).2
  have HO := Lib.hid hown
  have H := Lib.hid (h.below hbA)
  have HQ := Lib.hid (Pq.of_below (base := base) (b := b) (v := v) hbA hbase)
  clear h hbA hown
  go_enter Try.func12, Try.ntmps12
  go_wp2_with (first
    | (go_at_call 13; refine (q_peek base gq b v xs _ H.out h0).mono ?_; rintro e w1 ⟨rfl, hb⟩; have HR := Lib.hid ((hb.block w.heap.size (by simp)).trans (heap_alloc_new w _)); have hz := hb.size; simp only [World.size_alloc] at hz; have H := Lib.hid (H.out.below hb); have HQ := Lib.hid (HQ.out.trans (Pq.of_below hb (Nat.le_trans hbase HQ.out.size))); clear hb)
    | (refine wpList_store_whole rfl 40 (.tmp 4) (.tmp 9) rfl w1.heap.size (IS (at_ xs 0)) #[.int .i64 0, .int .i64 0, .int .i64 0] 40 rfl rfl (heap_alloc_new w1 _) rfl (info40 _) (by kernel_rfl) ?_; intro w2 hnew hsz hfar hbel; have HX := Lib.hid hnew; have hz2 := heap_lt hnew; have hb2 := hbel _ _ (Nat.le_refl _) (below_alloc (Below.refl w1.heap.size w1) _); have HR := Lib.hid ((hb2.block w.heap.size (by omega)).trans HR.out); have H := Lib.hid (H.out.below hb2); have HQ := Lib.hid (HQ.out.trans (Pq.of_below hb2 (Nat.le_trans hbase HQ.out.size))); have c0 : w2.cell? ⟨gq, 0, none⟩ = some (qp b) := cell_of_heap H.out.q (j := 0) rfl; clear hnew hsz hfar hbel hb2)
    | (go_at_call 32; refine (hpop_any base b v xs _ H.out.pv (Nat.le_trans hbase HQ.out.size) hl h0).mono ?_; rintro e w3 ⟨rfl, v3, hp3, hq3⟩; have HX := Lib.hid ((hq3.far _ (heap_lt HX.out) (by omega) (fun e => by have := HO.out _ e; omega)).trans HX.out); have HR := Lib.hid ((hq3.far _ (heap_lt HR.out) (by omega) (fun e => by have := HO.out _ e; omega)).trans HR.out); have H3 := Lib.hid (H.out.step hp3 hq3); have HQ3 := Lib.hid (HQ.out.trans hq3); have hq3o := Lib.hid hq3.own; clear hp3 hq3)
    | (refine wpList_load_on (by rfl) 40 (.tmp 4) rfl _ rfl 40 (IS (at_ xs 0)) (0, 0) _ HX.out Try.underlying40 rfl (info40 _) ?_)
    | (refine wpList_store_whole rfl 40 (.tmp 2) (.tmp 18) rfl w.heap.size (IS (at_ xs 0)) #[.int .i64 0, .int .i64 0, .int .i64 0] 40 rfl rfl HR.out rfl (info40 _) (by kernel_rfl) ?_; intro w4 hnew hsz hfar hbel; have HX4 := Lib.hid hnew; have HRw := Lib.hid (show Rw w.heap.size w3 w4 from ⟨hsz, hfar, hbel⟩); clear hnew hsz hfar hbel))
  have d0 : w4.cell? ⟨w.heap.size, 0, none⟩ = some (.int .i64 (at_ xs 0).t) := cell_of_heap HX4.out (j := 0) rfl
  have d1 : w4.cell? ⟨w.heap.size, 1, none⟩ = some (.int .i64 (at_ xs 0).r) := cell_of_heap HX4.out (j := 1) rfl
  have d2 : w4.cell? ⟨w.heap.size, 2, none⟩ = some (.int .i64 (at_ xs 0).g) := cell_of_heap HX4.out (j := 2) rfl
  have hown3 : v3.ownBlock ≠ some w.heap.size := fun e => by
    rcases hq3o.out _ e with q | q
    · have := HO.out _ q
      omega
    · omega
  have hfin : w.heap.size ≠ gq := by omega
  exact bodyPost_ret (v := .tuple #[.agg #[.int .i64 (at_ xs 0).t, .int .i64 (at_ xs 0).r, .int .i64 (at_ xs 0).g], .bool true]) (by simp [results, Try.results12, go_sem, *]) rfl ⟨rfl, _, H3.out.rw HRw.out hfin (by omega) hown3, HQ3.out.rw HRw.out (Nat.le_refl _) hbase⟩
end Go.Proofs.Ytndfoohdoadkfaa
