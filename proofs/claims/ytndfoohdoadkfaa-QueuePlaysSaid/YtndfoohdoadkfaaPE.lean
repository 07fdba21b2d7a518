/- QueuePlays: the walk. -/
import Derived.Test.YtndfoohdoadkfaaPD
set_option linter.unusedVariables false
set_option linter.unusedSimpArgs false
namespace Go.Proofs.Ytndfoohdoadkfaa
open Go.RowKit
structure Act5 where
  k : Int
  x : It
def AS (a : Act5) : Array Value := #[.int .i64 a.k, .int .i64 a.x.t, .int .i64 a.x.r, .int .i64 a.x.g]
theorem info38 (a : Act5) : (Try.prog.info? 38).map (·.size) = some (AS a).size := by
  rw [show (AS a).size = 4 from rfl]
  kernel_rfl
/-- A row of acts that is read. -/
def RowA (W : World) (v : Value) (xs : List Act5) : Prop := ∃ A c, v = .slice A xs.length c ∧ xs.length ≤ c ∧ (0 < xs.length → ∃ g o, A = some ⟨g, o, none⟩ ∧ ∀ k s, xs[k]? = some s → W.rangeAt g (o + k * 4) (AS s).toList)
theorem RowA.below {W W1 : World} {v : Value} {xs : List Act5} (h : RowA W v xs) (hb : Below W.heap.size W W1) : RowA W1 v xs := by
  obtain ⟨A, c, rfl, hc, h⟩ := h
  exact ⟨A, c, rfl, hc, fun h0 => by obtain ⟨g, o, e, hr⟩ := h h0; exact ⟨g, o, e, fun k s hk => range_below hb (hr k s hk)⟩⟩
structure Duo (W : World) (base gq1 b1 : Nat) (v1 : Value) (xs1 : List It) (g1 : Nat) (u1 : Value) (ys1 : List It) (gq2 b2 : Nat) (v2 : Value) (xs2 : List It) (g2 : Nat) (u2 : Value) (ys2 : List It) : Prop where
  q1 : QV W base gq1 b1 v1 xs1
  r1 : RV W base g1 u1 ys1
  e1 : Rel xs1 ys1
  q2 : QV W base gq2 b2 v2 xs2
  r2 : RV W base g2 u2 ys2
  e2 : Rel xs2 ys2
  nb : b1 ≠ b2
  nv : ∀ k, v1.ownBlock = some k → v2.ownBlock ≠ some k
  ng : g1 ≠ g2
  nu : ∀ k, u1.ownBlock = some k → u2.ownBlock ≠ some k
section
variable {W W' : World} {base gq1 b1 g1 gq2 b2 g2 : Nat} {v1 u1 v2 u2 : Value} {xs1 ys1 xs2 ys2 : List It}
theorem Duo.below (h : Duo W base gq1 b1 v1 xs1 g1 u1 ys1 gq2 b2 v2 xs2 g2 u2 ys2) (hb : Below W.heap.size W W') : Duo W' base gq1 b1 v1 xs1 g1 u1 ys1 gq2 b2 v2 xs2 g2 u2 ys2 :=
  ⟨h.q1.below hb, h.r1.below hb, h.e1, h.q2.below hb, h.r2.below hb, h.e2, h.nb, h.nv, h.ng, h.nu⟩
theorem Duo.swap (h : Duo W base gq1 b1 v1 xs1 g1 u1 ys1 gq2 b2 v2 xs2 g2 u2 ys2) : Duo W base gq2 b2 v2 xs2 g2 u2 ys2 gq1 b1 v1 xs1 g1 u1 ys1 :=
  ⟨h.q2, h.r2, h.e2, h.q1, h.r1, h.e1, Ne.symm h.nb, fun k h1 h2 => h.nv k h2 h1, Ne.symm h.ng, fun k h1 h2 => h.nu k h2 h1⟩
theorem Duo.step (h : Duo W base gq1 b1 v1 xs1 g1 u1 ys1 gq2 b2 v2 xs2 g2 u2 ys2) {v u : Value} {xs ys : List It} (hq : QV W' base gq1 b1 v xs) (hr : RV W' base g1 u ys) (he : Rel xs ys) (f : Fr2 base b1 g1 v1 u1 W v u W') : Duo W' base gq1 b1 v xs g1 u ys gq2 b2 v2 xs2 g2 u2 ys2 := by
  have nov : ∀ (k : Nat) (cs : Array Value) (T : TypeId), W.heap[k]? = some (.cells cs T (0, 0)) → T ≠ 40 → v1.ownBlock ≠ some k := fun k cs T hk hT e => by
    obtain ⟨cs', hc'⟩ := own_blk h.q1.pv.row e
    exact blk_ne hk hc' hT rfl
  have nou : ∀ (k : Nat) (cs : Array Value) (T : TypeId), W.heap[k]? = some (.cells cs T (0, 0)) → T ≠ 36 → u1.ownBlock ≠ some k := fun k cs T hk hT e => by
    obtain ⟨cs', hc'⟩ := own_blk h.r1.row e
    exact blk_ne hk hc' hT rfl
  have k1 := f.far gq2 (heap_lt h.q2.q) (blk_ne h.q2.q h.q1.pv.blk (by decide)) (nov _ _ _ h.q2.q (by decide)) (blk_ne h.q2.q h.r1.blk (by decide)) (nou _ _ _ h.q2.q (by decide))
  have k2 := f.far b2 (heap_lt h.q2.pv.blk) (Ne.symm h.nb) (nov _ _ _ h.q2.pv.blk (by decide)) (blk_ne h.q2.pv.blk h.r1.blk (by decide)) (nou _ _ _ h.q2.pv.blk (by decide))
  have k3 : ∀ k, v2.ownBlock = some k → W'.heap[k]? = W.heap[k]? := fun k hk => by
    obtain ⟨cs, hc⟩ := own_blk h.q2.pv.row hk
    exact f.far k (heap_lt hc) (blk_ne hc h.q1.pv.blk (by decide)) (fun e => h.nv k e hk) (blk_ne hc h.r1.blk (by decide)) (nou _ _ _ hc (by decide))
  have k4 := f.far g2 (heap_lt h.r2.blk) (blk_ne h.r2.blk h.q1.pv.blk (by decide)) (nov _ _ _ h.r2.blk (by decide)) (Ne.symm h.ng) (nou _ _ _ h.r2.blk (by decide))
  have k5 : ∀ k, u2.ownBlock = some k → W'.heap[k]? = W.heap[k]? := fun k hk => by
    obtain ⟨cs, hc⟩ := own_blk h.r2.row hk
    exact f.far k (heap_lt hc) (blk_ne hc h.q1.pv.blk (by decide)) (nov _ _ _ hc (by decide)) (blk_ne hc h.r1.blk (by decide)) (fun e => h.nu k e hk)
  refine ⟨hq, hr, he, ⟨k1.trans h.q2.q, k2.trans h.q2.pv.blk, own_keep h.q2.pv.row k3⟩, ⟨k4.trans h.r2.blk, own_keep h.r2.row k5⟩, h.e2, h.nb, fun k h1 h2 => ?_, h.ng, fun k h1 h2 => ?_⟩
  · rcases f.ownv k h1 with q | q
    · exact h.nv k q h2
    · obtain ⟨cs, hc⟩ := own_blk h.q2.pv.row h2
      have := heap_lt hc
      omega
  · rcases f.ownu k h1 with q | q
    · exact h.nu k q h2
    · obtain ⟨cs, hc⟩ := own_blk h.r2.row h2
      have := heap_lt hc
      omega
end
theorem wpList_load_midw {P : Program} {ops : Array Oper} {rest : List Oper} {o : Oper} {a : Act} {w : World} {Q : Exit → Act → World → Prop} (hw : Region.wanted o (yielded ops a.tmps) = true) (ty : TypeId) (x : Operand) (ho : o.op = .load ty x) (g off : Nat) (hx : a.eval x = .pointer (some ⟨g, off, none⟩)) (cs : List Value) (d : TypeDesc)
    (hr : w.rangeAt g off cs) (hu : P.underlying ty = some d) (hd : d.isRow = true) (hi : (P.info? ty).map (·.size) = some cs.length) (h : wpList P ops Q rest (a.put o.dst (.agg cs.toArray)) w) : wpList P ops Q (o :: rest) a w := by
  refine wpList_step fun K hK => ?_
  rw [if_pos hw]
  exact wp_load_mid ty x ho g off hx cs d hr hu hd hi (hK _ _ h)
theorem QV.base {W : World} {b0 b' gq b : Nat} {v : Value} {xs : List It} (h : QV W b' gq b v xs) (hb : b0 ≤ b') : QV W b0 gq b v xs := ⟨h.q, ⟨h.pv.blk, own_base h.pv.row hb⟩⟩
theorem Rel.init (xs : List It) : Rel (initL (xs.length / 2) xs) xs := ⟨init_heap xs, fun x => init_count _ xs x, initL_len _ xs⟩
theorem Rel.none : Rel [] [] := ⟨fun k h1 h2 => by simp at h2, fun _ => rfl, rfl⟩
theorem wpl_app {P : Program} {o : Oper} {a : Act} {Q : Exit → Act → World → Prop} {ops : Array Oper} {rest : List Oper} {W W' : World} {v u v' : Value} {T : TypeId} (hr : (Builtin.append_ #[T, T] T #[v, u]).run P W = .ok v' W') (hg : o.guard = none) (s x : Operand) (ho : o.op = .call { callee := .builtin .append, args := #[s, x], argTypes := #[T, T] }) (hty : o.type = T)
    (hs : a.eval s = v) (hx : a.eval x = u) (h : wpList P ops Q rest (a.put o.dst v') W') : wpList P ops Q (o :: rest) a W :=
  wpList_plain hg fun K hK => wp_app s x ho hty hs hx hr (hK _ _ h)
theorem new_nil (W : World) (base : Nat) : W.ownsRow base 40 3 (.slice none 0 0) ([] : List It).length (cellsI []) := ⟨rfl, .inl ⟨rfl, rfl⟩⟩
set_option maxRecDepth 10000 in
set_option maxHeartbeats 8000000 in
theorem plays_any (va : Value) (xs : List It) (vb : Value) (la lb : List Act5) (vc : Value) (w : World) (ha : RowI w va xs ∧ Nz va) (hb : RowA w vb la) (hc : RowA w vc lb) :
    Calls Try.prog 3 #[va, vb, vc] w fun e w' => e = .returned (.bool true) ∧ Below w.heap.size w w' := by
  have HA := Lib.hid ha.1
  have HNz := Lib.hid ha.2
  have HBA := Lib.hid hb
  have HCA := Lib.hid hc
  obtain ⟨Aa, ca, rfl, ka, _⟩ := ha.1
  obtain ⟨Ab, cb, rfl, kb, rb⟩ := hb
  obtain ⟨Ac, cc, rfl, kc, rc⟩ := hc
  obtain ⟨N0, hN0⟩ : ∃ N, N = xs.length := ⟨_, rfl⟩
  obtain ⟨N1, hN1⟩ : ∃ N, N = la.length := ⟨_, rfl⟩
  obtain ⟨N2, hN2⟩ : ∃ N, N = lb.length := ⟨_, rfl⟩
  have HN0 := Lib.hid hN0
  have HN1 := Lib.hid hN1
  have HN2 := Lib.hid hN2
  have RB := Lib.hid rb
  have RC := Lib.hid rc
  rw [← hN0] at ka HA HNz ⊢
  rw [← hN1] at kb HBA ⊢
  rw [← hN2] at kc HCA ⊢
  clear hN0 hN1 hN2 rb rc ha
  go_enter Try.func3, Try.ntmps3
  by_cases l0 : N0 ≤ 200
  · by_cases l1 : N1 ≤ 300
    · by_cases l2 : N2 ≤ 300
      · have g0 : ¬ (200 : Int) < (N0 : Int) := by omega
        have g1 : ¬ (300 : Int) < (N1 : Int) := by omega
        have g2 : ¬ (300 : Int) < (N2 : Int) := by omega
        go_wp2_with (first
          | (go_at_call 8; refine (knows_is _).mono ?_; rintro e w7 ⟨rfl, h7⟩; have H7 := Lib.hid h7; clear h7)
          | (refine wpl_app A1.out rfl (.tmp 30) (.tmp 31) rfl rfl (by kernel_rfl) (by kernel_rfl) ?_; clear A1)
          | (go_at_call 9; refine (new_any w.heap.size _ xs _ O1.out (by have := HN0.out; omega)).mono ?_; rintro e w2 ⟨gq1, b1, v1, rfl, q1, hgq1, hb1, h2⟩; have Q1 := Lib.hid (q1.base h1z); have H2 := Lib.hid (bel H1.out h2); have HGE1 := Lib.hid (Nat.le_trans h1z hb1); clear q1 hgq1 hb1 h2 O1)
          | (go_at_call 9; refine (new_any w.heap.size (.slice none 0 0) [] _ (new_nil _ _) (by simp)).mono ?_; rintro e w3 ⟨gq2, b2, v2, rfl, q2, hgq2, hb2, h3⟩; have Q2 := Lib.hid (q2.base H2.out.size); have HGB := Lib.hid (show b1 < w2.heap.size ∧ (∀ k, v1.ownBlock = some k → k < w2.heap.size) ∧ w2.heap.size ≤ b2 from ⟨heap_lt Q1.out.pv.blk, fun k hk => (own_lt Q1.out.pv.row k hk).2, hb2⟩); have HOV2 := Lib.hid (fun k hk => (own_lt q2.pv.row k hk).1); have Q1b := Lib.hid (Q1.out.below h3); have H3 := Lib.hid (bel H2.out h3); obtain ⟨v4, w4, a1, o4, g4, t4⟩ := app_rows36 (own_empty36 w3 w3.heap.size (Nat.le_refl _)) (HA.out.below (bel H3.out (below_alloc (Below.refl _ _) _))) HNz.out (by simp) (by simp) (by have := HN0.out; omega); rw [List.nil_append] at o4; obtain ⟨A4, c4, rfl⟩ := own_slice o4; have hB4 := (below_alloc (Below.refl w3.heap.size w3) (.cells #[] 36)).grown g4 (by simp) (fun k hk => (own_lt (own_empty36 w3 w3.heap.size (Nat.le_refl _)) k hk).1); have A1 := Lib.hid a1; have O4 := Lib.hid o4; have H4 := Lib.hid hB4; have HGE2 := Lib.hid (Nat.le_trans H2.out.size hb2); clear q2 hgq2 h3 a1 o4 g4 t4 hb2 hB4 Q1 H2)
          | (go_at_call 10; refine (items_any _ xs _ HA.out (by have := HN0.out; omega)).mono ?_; rintro e w1 ⟨v0, rfl, o1, h1⟩; obtain ⟨A1_, c1_, rfl⟩ := own_slice o1; have O1 := Lib.hid o1; have H1 := Lib.hid h1; have h1z := h1.size; clear o1 h1))
        obtain ⟨W5, hW5⟩ : ∃ W5, W5 = (w4.alloc (Obj.cells #[.slice A4 xs.length c4] 31)).alloc (Obj.cells #[.slice none 0 0] 31) := ⟨_, rfl⟩
        have h45 : Below w4.heap.size w4 W5 := by rw [hW5]; exact below_alloc (below_alloc (Below.refl _ _) _) _
        have hr1 : W5.heap[w4.heap.size]? = some (.cells #[.slice A4 xs.length c4] 31 (0, 0)) := by
          rw [hW5]
          exact (heap_alloc_old _ _ (by simp)).trans (heap_alloc_new w4 _)
        have hr2 : W5.heap[w4.heap.size + 1]? = some (.cells #[.slice none 0 0] 31 (0, 0)) := by
          rw [hW5]
          exact heap_new_at (by simp)
        have H7b := Lib.hid (show Below W5.heap.size W5 w7 from by rw [hW5]; exact H7.out)
        have hw4 : w.heap.size ≤ w4.heap.size := Nat.le_trans H3.out.size H4.out.size
        have hD5 : Duo W5 w.heap.size gq1 b1 v1 (initL (xs.length / 2) xs) w4.heap.size (.slice A4 xs.length c4) xs gq2 b2 v2 (initL (([] : List It).length / 2) []) (w4.heap.size + 1) (.slice none 0 0) [] :=
          ⟨(Q1b.out.below H4.out).below h45, ⟨hr1, pw_own_below (own_base O4.out H3.out.size) h45⟩, Rel.init xs, (Q2.out.below H4.out).below h45, ⟨hr2, ⟨rfl, .inl ⟨rfl, rfl⟩⟩⟩, Rel.init [], by have := HGB.out; omega, fun k k1 k2 => by have h1 := HGB.out.2.1 k k1; have h2 := HOV2.out k k2; omega, by omega, fun k k1 k2 => by simp [Value.ownBlock] at k2⟩
        have HD0 := Lib.hid (hD5.below H7b.out)
        have HBw := Lib.hid (bel (bel (bel H3.out H4.out) h45) H7b.out)
        have HGE3 := Lib.hid hw4
        obtain ⟨g1, hg1⟩ : ∃ g1, g1 = w4.heap.size := ⟨_, rfl⟩
        obtain ⟨g2, hg2⟩ : ∃ g2, g2 = w4.heap.size + 1 := ⟨_, rfl⟩
        have HGG := Lib.hid (show w.heap.size ≤ g1 ∧ w.heap.size ≤ g2 from by omega)
        rw [← hg2, ← hg1] at HD0
        rw [← hg2, ← hg1]
        have HX0 := Lib.hid (show (initL (xs.length / 2) xs).length ≤ 200 from by rw [initL_len, ← HN0.out]; exact l0)
        clear hW5 h45 hr1 hr2 hw4 hD5 H7 H7b H3 H4 Q1b Q2 O4 HGB HOV2 hg1 hg2 h1z H1 HA HNz
        go_loopw [11] (fun n wr => ∃ (i : Nat) (v1 : Value) (xs1 : List It) (u1 : Value) (ys1 : List It) (v2 : Value) (xs2 : List It) (u2 : Value) (ys2 : List It), n = .int .i64 i ∧ i ≤ 300 ∧ Hid (Duo wr w.heap.size gq1 b1 v1 xs1 g1 u1 ys1 gq2 b2 v2 xs2 g2 u2 ys2) ∧ Hid (xs1.length ≤ 200 + i ∧ xs2.length ≤ i) ∧ Hid (Below w.heap.size w wr)) (fun n _ => 301 - (intOf n).toNat)
        case atStart => exact ⟨0, _, _, _, _, _, _, _, _, rfl, by omega, HD0, Lib.hid ⟨by have := HX0.out; omega, by simp [initL_len]⟩, HBw⟩
        case round =>
          obtain ⟨i, v1, xs1, u1, ys1, v2, xs2, u2, ys2, rfl, hi, HD, HLs, HB⟩ := hrel
          by_cases q1 : i < N1
          · obtain ⟨ga, oa, rfl, ra⟩ := RB.out (by rw [← HN1.out]; omega)
            obtain ⟨a, ha⟩ : ∃ a, la[i]? = some a := ⟨_, List.getElem?_eq_getElem (by rw [← HN1.out]; omega)⟩
            have HXa := Lib.hid (range_below HB.out (ra i a ha))
            have q1' : (i : Int) < (N1 : Int) := by omega
            clear ra ha
            by_cases q2 : i < N2
            · obtain ⟨gb, ob, rfl, rb⟩ := RC.out (by rw [← HN2.out]; omega)
              obtain ⟨b, hb⟩ : ∃ b, lb[i]? = some b := ⟨_, List.getElem?_eq_getElem (by rw [← HN2.out]; omega)⟩
              have HXb := Lib.hid (rb i b hb)
              have q2' : (i : Int) < (N2 : Int) := by omega
              clear rb hb
              go_wp2_with (first
                | (go_at_call 11; refine (step_any w.heap.size gq2 b2 g2 v2 u2 xs2 ys2 b.k b.x _ HD1.out.q2 HD1.out.r2 HB1.out.size (by have := HLs.out.2; omega) HD1.out.e2).mono ?_; rintro e w9 ⟨rfl, v4, xs4, u4, ys4, hq, hr, he, hle, hf⟩; have HD2 := Lib.hid (HD1.out.swap.step hq hr he hf).swap; have HL2 := Lib.hid hle; have HB2 := Lib.hid (hf.bel _ _ (Nat.le_refl _) HGE2.out HGG.out.2 HB1.out); clear hq hr he hle hf HD1)
                | (go_at_call 11; refine (step_any w.heap.size gq1 b1 g1 v1 u1 xs1 ys1 a.k a.x _ HD.out.q1 HD.out.r1 HB.out.size (by have := HLs.out.1; omega) HD.out.e1).mono ?_; rintro e w8 ⟨rfl, v3, xs3, u3, ys3, hq, hr, he, hle, hf⟩; have HD1 := Lib.hid (HD.out.step hq hr he hf); have HL1 := Lib.hid hle; have HB1 := Lib.hid (hf.bel _ _ (Nat.le_refl _) HGE1.out HGG.out.1 HB.out); have HXb1 := Lib.hid (range_below HB1.out HXb.out); clear hq hr he hle hf HD)
                | (refine wpList_load_midw (wanted_of (j := 19) (d := 78) rfl rfl rfl) 38 (.tmp 83) rfl gb (ob + i * 4) rfl [.int .i64 b.k, .int .i64 b.x.t, .int .i64 b.x.r, .int .i64 b.x.g] _ HXb1.out Try.underlying38 rfl (info38 b) ?_)
                | (refine wpList_load_midw (wanted_of (j := 4) (d := 63) rfl rfl rfl) 38 (.tmp 68) rfl ga (oa + i * 4) rfl [.int .i64 a.k, .int .i64 a.x.t, .int .i64 a.x.r, .int .i64 a.x.g] _ HXa.out Try.underlying38 rfl (info38 a) ?_))
              go_roundw
              case rel => exact ⟨i + 1, _, _, _, _, _, _, _, _, by go_num, by omega, HD2, Lib.hid ⟨by have := HLs.out; have := HL1.out; omega, by have := HLs.out; have := HL2.out; omega⟩, HB2⟩
              case measure =>
                simp [intOf]
                omega
            · go_wp2_with (first
                | (go_at_call 11; refine (step_any w.heap.size gq1 b1 g1 v1 u1 xs1 ys1 a.k a.x _ HD.out.q1 HD.out.r1 HB.out.size (by have := HLs.out.1; omega) HD.out.e1).mono ?_; rintro e w8 ⟨rfl, v3, xs3, u3, ys3, hq, hr, he, hle, hf⟩; have HD1 := Lib.hid (HD.out.step hq hr he hf); have HL1 := Lib.hid hle; have HB1 := Lib.hid (hf.bel _ _ (Nat.le_refl _) HGE1.out HGG.out.1 HB.out); clear hq hr he hle hf HD)
                | (refine wpList_load_midw (wanted_of (j := 4) (d := 63) rfl rfl rfl) 38 (.tmp 68) rfl ga (oa + i * 4) rfl [.int .i64 a.k, .int .i64 a.x.t, .int .i64 a.x.r, .int .i64 a.x.g] _ HXa.out Try.underlying38 rfl (info38 a) ?_))
              go_roundw
              case rel => exact ⟨i + 1, _, _, _, _, _, _, _, _, by go_num, by omega, HD1, Lib.hid ⟨by have := HLs.out; have := HL1.out; omega, by have := HLs.out; omega⟩, HB1⟩
              case measure =>
                simp [intOf]
                omega
          · by_cases q2 : i < N2
            · obtain ⟨gb, ob, rfl, rb⟩ := RC.out (by rw [← HN2.out]; omega)
              obtain ⟨b, hb⟩ : ∃ b, lb[i]? = some b := ⟨_, List.getElem?_eq_getElem (by rw [← HN2.out]; omega)⟩
              have HXb := Lib.hid (range_below HB.out (rb i b hb))
              have q2' : (i : Int) < (N2 : Int) := by omega
              clear rb hb
              go_wp2_with (first
                | (go_at_call 11; refine (step_any w.heap.size gq2 b2 g2 v2 u2 xs2 ys2 b.k b.x _ HD.out.q2 HD.out.r2 HB.out.size (by have := HLs.out.2; omega) HD.out.e2).mono ?_; rintro e w9 ⟨rfl, v4, xs4, u4, ys4, hq, hr, he, hle, hf⟩; have HD2 := Lib.hid (HD.out.swap.step hq hr he hf).swap; have HL2 := Lib.hid hle; have HB2 := Lib.hid (hf.bel _ _ (Nat.le_refl _) HGE2.out HGG.out.2 HB.out); clear hq hr he hle hf HD)
                | (refine wpList_load_midw (wanted_of (j := 19) (d := 78) rfl rfl rfl) 38 (.tmp 83) rfl gb (ob + i * 4) rfl [.int .i64 b.k, .int .i64 b.x.t, .int .i64 b.x.r, .int .i64 b.x.g] _ HXb.out Try.underlying38 rfl (info38 b) ?_))
              go_roundw
              case rel => exact ⟨i + 1, _, _, _, _, _, _, _, _, by go_num, by omega, HD2, Lib.hid ⟨by have := HLs.out; omega, by have := HLs.out; have := HL2.out; omega⟩, HB2⟩
              case measure =>
                simp [intOf]
                omega
            · go_wp2
              go_ret
              exact ⟨rfl, HB.out⟩
      · have g0 : ¬ (200 : Int) < (N0 : Int) := by omega
        have g1 : ¬ (300 : Int) < (N1 : Int) := by omega
        have g2 : (300 : Int) < (N2 : Int) := by omega
        go_wp2_with (go_at_call 8; refine (knows_is _).mono ?_; rintro e w2 ⟨rfl, hb⟩)
        go_ret
        exact ⟨rfl, hb⟩
    · have g0 : ¬ (200 : Int) < (N0 : Int) := by omega
      have g1 : (300 : Int) < (N1 : Int) := by omega
      go_wp2_with (go_at_call 8; refine (knows_is _).mono ?_; rintro e w2 ⟨rfl, hb⟩)
      go_ret
      exact ⟨rfl, hb⟩
  · have g0 : (200 : Int) < (N0 : Int) := by omega
    go_wp2_with (go_at_call 8; refine (knows_is _).mono ?_; rintro e w2 ⟨rfl, hb⟩)
    go_ret
    exact ⟨rfl, hb⟩
end Go.Proofs.Ytndfoohdoadkfaa
