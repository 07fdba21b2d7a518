/- heap.Init, Push and Pop on a pile. -/
import Derived.Test.YtndfoohdoadkfaaQD
set_option linter.unusedVariables false
set_option linter.unusedSimpArgs false
namespace Go.Proofs.Ytndfoohdoadkfaa
open Go.RowKit
attribute [local go_sem] mPush mPop cf34 cf59 cf62 cf60 cf61
def initL : Nat → List It → List It
  | 0, xs => xs
  | k + 1, xs => initL k (dnL (xs.length + 1) xs k xs.length)
theorem initL_len : ∀ (k : Nat) (xs : List It), (initL k xs).length = xs.length
  | 0, _ => rfl
  | k + 1, xs => by rw [initL, initL_len k, dnL_len]
def pushL (xs : List It) (x : It) : List It := upL (xs.length + 1) (xs ++ [x]) xs.length
def popZ (xs : List It) : List It := dnL (xs.length - 1 + 1) (swapN xs 0 (xs.length - 1)) 0 (xs.length - 1)
def popL (xs : List It) : List It := (popZ xs).take (xs.length - 1)
theorem popZ_len (xs : List It) : (popZ xs).length = xs.length := by rw [popZ, dnL_len, swapN_len]
theorem pv_len (base b : Nat) (A : Option Addr) (n c : Nat) (xs : List It) (w : World) (h : PV w base b (.slice A n c) xs) : n = xs.length := by
  obtain ⟨A', c', e, _⟩ := h.shape
  injection e
set_option maxHeartbeats 1000000 in
theorem init_any (base b : Nat) (v : Value) (xs : List It) (w : World) (h : PV w base b v xs) (hbase : base ≤ w.heap.size) (hl : xs.length ≤ 2000000) :
    Calls Try.prog 28 #[.iface 47 (.pointer (some ⟨b, 0, none⟩))] w fun e w' => e = .returned (.tuple #[]) ∧ PV w' base b v (initL (xs.length / 2) xs) ∧ Pq base b v w v w' := by
  obtain ⟨A, c, rfl, _⟩ := h.shape
  obtain ⟨n, hn⟩ : ∃ n, n = xs.length := ⟨_, rfl⟩
  rw [← hn] at h hl ⊢
  obtain ⟨R, hR⟩ : ∃ R, initL (n / 2) xs = R := ⟨_, rfl⟩
  rw [hR]
  obtain ⟨p, hp⟩ : ∃ p, p = n / 2 := ⟨_, rfl⟩
  rw [← hp] at hR
  have hq : (n : Int).tdiv 2 = (p : Int) := by
    rw [Int.tdiv_eq_ediv_of_nonneg (by omega)]
    omega
  have hpl : p ≤ 2000000 := by omega
  have c0 : w.cell? ⟨b, 0, none⟩ = some (.slice A n c) := cell_of_heap h.blk (j := 0) rfl
  have hml := mLen b A n c w c0
  have HR := Lib.hid hR
  have H := Lib.hid h
  have HN := Lib.hid hn
  clear hR h hn hp
  go_enter Try.func28, Try.ntmps28
  go_wp2_with (go_at_call 34; refine (len_any _ _ _ _).mono ?_; rintro e w1 ⟨rfl, rfl⟩)
  go_loopw [3] (fun t wr => ∃ (k : Nat) (ys : List It), t = .int .i64 ((k : Int) - 1) ∧ k ≤ 2000000 ∧ Hid (ys.length = n) ∧ Hid (initL k ys = R) ∧ Hid (PV wr base b (.slice A n c) ys) ∧ Hid (Pq base b (.slice A n c) w (.slice A n c) wr)) (fun t _ => (intOf t + 1).toNat)
  case atStart => exact ⟨p, xs, rfl, hpl, Lib.hid HN.out.symm, HR, H, Lib.hid (Pq.refl _ _ _ _)⟩
  case round =>
    obtain ⟨k, ys, rfl, hk, HL, HU, HP, HQ⟩ := hrel
    cases k with
    | zero =>
      go_wp2
      go_end0
      have hf := HU.out
      rw [initL] at hf
      rw [← hf]
      exact ⟨rfl, HP.out, HQ.out⟩
    | succ k =>
      have e1 : (((k + 1 : Nat) : Int) - 1) = (k : Int) := by omega
      rw [e1]
      have e2 : ¬ (k : Int) < 0 := by omega
      go_wp2_with (go_at_call 40; refine (down_any base b _ ys k n _ HP.out (Nat.le_trans hbase HQ.out.size) (by omega) (by rw [HL.out]; exact Nat.le_refl _) (by rw [HL.out]; exact hl)).mono ?_; rintro e w2 ⟨⟨r, rfl⟩, hp2, hq2⟩; have HP2 := Lib.hid hp2; have HQ2 := Lib.hid (HQ.out.trans hq2); clear hp2 hq2)
      go_roundw
      case rel =>
        have hf := HU.out
        rw [initL, HL.out] at hf
        exact ⟨k, _, rfl, by omega, Lib.hid (by rw [dnL_len]; exact HL.out), Lib.hid hf, HP2, HQ2⟩
      case measure =>
        simp [intOf] <;> omega
set_option maxHeartbeats 1000000 in
theorem hpush_any (base b : Nat) (v : Value) (xs : List It) (x : It) (w : World) (h : PV w base b v xs) (hbase : base ≤ w.heap.size) (hl : xs.length ≤ 1999999) :
    Calls Try.prog 35 #[.iface 47 (.pointer (some ⟨b, 0, none⟩)), .iface 40 (.agg (IS x))] w fun e w' => e = .returned (.tuple #[]) ∧ ∃ v', PV w' base b v' (pushL xs x) ∧ Pq base b v w v' w' := by
  have H := Lib.hid h
  clear h
  have hln : (xs ++ [x]).length = xs.length + 1 := by simp
  obtain ⟨n, hn⟩ : ∃ n, n = xs.length := ⟨_, rfl⟩
  have HN := Lib.hid hn
  have HLN := Lib.hid hln
  rw [← hn] at hl
  clear hn hln
  have e1 : (((n + 1 : Nat) : Int) - 1) = (n : Int) := by omega
  go_enter Try.func35, Try.ntmps35
  go_wp2_with (first
    | (go_at_call 61; refine (push_any base b v xs x _ H.out hbase (by rw [← HN.out]; omega)).mono ?_; rintro e w2 ⟨rfl, v2, hp2, hq2⟩; (obtain ⟨A2, c2, rfl, hs2⟩ := hp2.shape); rw [HLN.out, ← HN.out] at hp2; have hml := mLen b _ _ _ w2 (cell_of_heap hp2.blk (j := 0) rfl); rw [HLN.out, ← HN.out] at hq2; have HP2 := Lib.hid hp2; have HQ2 := Lib.hid hq2; clear hp2 hq2 hs2)
    | (go_at_call 34; refine (len_any _ _ _ _).mono ?_; rintro e w1 ⟨rfl, rfl⟩)
    | (go_at_call 42; refine (up_any base b _ (xs ++ [x]) n _ HP2.out (Nat.le_trans hbase HQ2.out.size) (by rw [HLN.out, ← HN.out]; omega) (by rw [HLN.out, ← HN.out]; omega)).mono ?_; rintro e w3 ⟨rfl, hp3, hq3⟩; have HP3 := Lib.hid hp3; have HQ3 := Lib.hid (HQ2.out.trans hq3); clear hp3 hq3))
  go_end0
  refine ⟨rfl, _, ?_, HQ3.out⟩
  rw [pushL, ← HN.out]
  exact HP3.out
theorem take_last (zs : List It) (n : Nat) (h : zs.length = n + 1) : zs = zs.take n ++ [at_ zs n] := by
  have h1 : zs[n]? = some (at_ zs n) := at_get (by omega)
  have h2 := List.take_add_one (l := zs) (i := n)
  rw [h1, show zs.take (n + 1) = zs from List.take_of_length_le (by omega)] at h2
  simpa using h2
set_option maxHeartbeats 1000000 in
theorem hpop_any (base b : Nat) (v : Value) (xs : List It) (w : World) (h : PV w base b v xs) (hbase : base ≤ w.heap.size) (hl : xs.length ≤ 2000000) (h0 : 0 < xs.length) :
    Calls Try.prog 32 #[.iface 47 (.pointer (some ⟨b, 0, none⟩))] w fun e w' => e = .returned (.iface 40 (.agg (IS (at_ (popZ xs) (xs.length - 1))))) ∧ ∃ v', PV w' base b v' (popL xs) ∧ Pq base b v w v' w' := by
  obtain ⟨A, c, rfl, _⟩ := h.shape
  obtain ⟨n, hn⟩ : ∃ n, xs.length = n + 1 := ⟨xs.length - 1, by omega⟩
  have hlz := popZ_len xs
  have htl := take_last (popZ xs) n (by rw [hlz, hn])
  have HN := Lib.hid hn
  have c0 : w.cell? ⟨b, 0, none⟩ = some (.slice A xs.length c) := cell_of_heap h.blk (j := 0) rfl
  have hml := mLen b A xs.length c w c0
  have hms := mSwap b A xs.length c w c0
  rw [hn] at h hl c0 hml hms ⊢
  have e1 : (((n + 1 : Nat) : Int) - 1) = (n : Int) := by omega
  have H := Lib.hid h
  have HT := Lib.hid htl
  have HLZ := Lib.hid hlz
  have hpz : popZ xs = dnL (n + 1) (swapN xs 0 n) 0 n := by
    rw [popZ, hn]
    rfl
  have HPZ := Lib.hid hpz
  clear h htl hlz hpz hn h0 c0
  rw [show n + 1 - 1 = n from rfl]
  go_enter Try.func32, Try.ntmps32
  go_wp2_with (first
    | (go_at_call 34; refine (len_any _ _ _ _).mono ?_; rintro e w1 ⟨rfl, rfl⟩)
    | (go_at_call 62; refine (pv_swap base b 0 n A _ c xs _ H.out (by rw [HN.out]; omega) (by rw [HN.out]; omega)).mono ?_; rintro e w2 ⟨rfl, hp2, hq2⟩; have HP2 := Lib.hid hp2; have HQ2 := Lib.hid hq2; clear hp2 hq2)
    | (go_at_call 40; refine (down_any base b _ (swapN xs 0 n) 0 n _ HP2.out (Nat.le_trans hbase HQ2.out.size) (by omega) (by rw [swapN_len, HN.out]; omega) (by rw [swapN_len, HN.out]; exact hl)).mono ?_; rintro e w3 ⟨⟨r, rfl⟩, hp3, hq3⟩; rw [← HPZ.out, HT.out] at hp3; have HP3 := Lib.hid hp3; have HQ3 := Lib.hid (HQ2.out.trans hq3); clear hp3 hq3)
    | (go_at_call 60; refine (pop_any base b _ _ _ _ HP3.out (Nat.le_trans hbase HQ3.out.size)).mono ?_; rintro e w4 ⟨rfl, v4, hp4, hq4⟩; have HP4 := Lib.hid hp4; have HQ4 := Lib.hid (HQ3.out.trans hq4); clear hp4 hq4))
  go_ret
  refine ⟨rfl, _, ?_, HQ4.out⟩
  rw [popL, HN.out]
  exact HP4.out
end Go.Proofs.Ytndfoohdoadkfaa
