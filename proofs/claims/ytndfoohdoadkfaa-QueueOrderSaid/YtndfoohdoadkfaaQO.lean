/- pile's Pop; heap's calls through the interface. -/
import Derived.Test.YtndfoohdoadkfaaQP
set_option linter.unusedVariables false
set_option linter.unusedSimpArgs false
namespace Go.Proofs.Ytndfoohdoadkfaa
open Go.RowKit
theorem own_take {W : World} {base g n cap : Nat} {xs : List It} {x : It} (h : W.ownsRow base 40 3 (.slice (some ⟨g, 0, none⟩) (n + 1) cap) (n + 1) (cellsI (xs ++ [x]))) (hn : xs.length = n) : W.ownsRow base 40 3 (.slice (some ⟨g, 0, none⟩) n cap) n (cellsI xs) := by
  refine ⟨by rw [cellsI_len, hn], ?_⟩
  rcases h.2 with ⟨e, _⟩ | ⟨g', cap', cur, e, hg, hh, hnc, hcm, hsz, htk⟩
  · cases e
  · injection e with e1 e2 e3
    injection e1 with e1
    injection e1 with e1
    subst e1 e3
    refine .inr ⟨g, cap, cur, rfl, hg, hh, by omega, hcm, hsz, ?_⟩
    have : cur.toList.take (n * 3) = (cur.toList.take ((n + 1) * 3)).take (n * 3) := by rw [List.take_take, Nat.min_eq_left (by omega)]
    rw [this, htk, cellsI_snoc, List.take_left' (by rw [cellsI_len, hn])]
set_option maxHeartbeats 1000000 in
theorem pop_any (base b : Nat) (v : Value) (xs : List It) (x : It) (w : World) (h : PV w base b v (xs ++ [x])) (hbase : base ≤ w.heap.size) :
    Calls Try.prog 60 #[.pointer (some ⟨b, 0, none⟩)] w fun e w' => e = .returned (.iface 40 (.agg (IS x))) ∧ ∃ v', PV w' base b v' xs ∧ Pq base b v w v' w' := by
  have hlen : (xs ++ [x]).length = xs.length + 1 := by simp
  obtain ⟨A, cap, rfl, hs⟩ := h.shape
  obtain ⟨g, rfl, hg, hgb, hgl, hc, hcm⟩ : ∃ g, A = some ⟨g, 0, none⟩ ∧ base ≤ g ∧ g ≠ b ∧ g < w.heap.size ∧ (xs ++ [x]).length ≤ cap ∧ cap ≤ maxLen := by
    rcases hs with ⟨_, h0, _⟩ | h
    · rw [hlen] at h0
      omega
    · exact h
  clear hs
  have hblk := h.blk
  have hrow := h.row
  rw [hlen] at hblk hrow hc ⊢
  obtain ⟨n, hn⟩ : ∃ n, n = xs.length := ⟨_, rfl⟩
  rw [← hn] at hblk hrow hc ⊢
  have hbl := heap_lt hblk
  have c0 : w.cell? ⟨b, 0, none⟩ = some (.slice (some ⟨g, 0, none⟩) (n + 1) cap) := cell_of_heap hblk (j := 0) rfl
  have hk1 : (((n + 1 : Nat) : Int) - 1) = (n : Int) := by omega
  have hw : wrap64 (n : Int) = n := by
    simp only [maxLen] at hcm
    unfold wrap64
    omega
  have hrg := row_range (k := n) (x := x) hrow (by rw [hn]; simp)
  have HR := Lib.hid hrow
  have HG := Lib.hid hrg
  have HBk := Lib.hid hblk
  have HN := Lib.hid hn
  clear h hrow hrg hblk hlen hn
  go_enter Try.func60, Try.ntmps60
  go_wp2_with (first
    | (refine wpList_load_mid rfl 40 (.tmp 14) rfl g (n * 3) rfl (IS x).toList _ HG.out Try.underlying40 rfl (info40 x) ?_)
    | (refine wpList_store_whole rfl 40 (.tmp 4) (.tmp 15) rfl w.heap.size (IS x) #[.int .i64 0, .int .i64 0, .int .i64 0] 40 rfl rfl (heap_alloc_new w _) rfl (info40 x) (by kernel_rfl) ?_; intro w1 hnew hsz hfar hbel; have HX := Lib.hid hnew; have hB := (hbel _ _ (Nat.le_refl _) (below_alloc (Below.refl w.heap.size w) _)); have c1 : w1.cell? ⟨b, 0, none⟩ = some (.slice (some ⟨g, 0, none⟩) (n + 1) cap) := cell_of_heap ((hB.block _ hbl).trans HBk.out) (j := 0) rfl; have f1 := frozen_of_heap ((hB.block _ hbl).trans HBk.out) (j := 0); have HB := Lib.hid hB; clear hnew hsz hfar hbel hB)
    | (refine wpList_load_on (by rfl) 40 (.tmp 4) rfl _ rfl 40 (IS x) (0, 0) _ (set_ne (by omega) HX.out) Try.underlying40 rfl (info40 x) ?_))
  go_ret
  have hp : Pq base b (.slice (some ⟨g, 0, none⟩) (n + 1) cap) w (.slice (some ⟨g, 0, none⟩) n cap) w1 :=
    ⟨HB.out.size, fun k hk _ _ => HB.out.block k hk, fun _ q => .inl q, fun B w0 h1 _ h3 => h3.trans (HB.out.mono (by omega))⟩
  exact ⟨rfl, _, PV.put ((HB.out.block _ hbl).trans HBk.out) (by rw [← HN.out]; exact own_take (pw_own_below HR.out HB.out) HN.out.symm) (by simp only [Value.ownBlock]; intro e; injection e with e; exact hgb e), hp.put _⟩
end Go.Proofs.Ytndfoohdoadkfaa
