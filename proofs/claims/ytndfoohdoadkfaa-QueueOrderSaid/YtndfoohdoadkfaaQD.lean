/- heap.down on a pile. -/
import Derived.Test.YtndfoohdoadkfaaQH
set_option linter.unusedVariables false
set_option linter.unusedSimpArgs false
namespace Go.Proofs.Ytndfoohdoadkfaa
open Go.RowKit
attribute [local go_sem] mPush mPop cf34 cf59 cf62 cf60 cf61
set_option maxHeartbeats 2000000 in
theorem down_any (base b : Nat) (v : Value) (xs : List It) (i0 m : Nat) (w : World) (h : PV w base b v xs) (hbase : base ≤ w.heap.size) (hi0 : i0 ≤ 2000000) (hm : m ≤ xs.length) (hl : xs.length ≤ 2000000) :
    Calls Try.prog 40 #[.iface 47 (.pointer (some ⟨b, 0, none⟩)), .int .i64 i0, .int .i64 m] w fun e w' => (∃ r, e = .returned (.bool r)) ∧ PV w' base b v (dnL (m + 1) xs i0 m) ∧ Pq base b v w v w' := by
  obtain ⟨A, c, rfl, _⟩ := h.shape
  obtain ⟨n, hn⟩ : ∃ n, n = xs.length := ⟨_, rfl⟩
  rw [← hn] at h hm hl ⊢
  obtain ⟨R, hR⟩ : ∃ R, dnL (m + 1) xs i0 m = R := ⟨_, rfl⟩
  rw [hR]
  have HR := Lib.hid hR
  have H := Lib.hid h
  have HN := Lib.hid hn
  clear hR h hn
  go_enter Try.func40, Try.ntmps40
  go_wp2
  go_loopw [7] (fun t wr => ∃ (i f : Nat) (ys : List It), t = .int .i64 i ∧ i ≤ 2000000 ∧ Hid (m < f + i ∧ 1 ≤ f) ∧ Hid (ys.length = n) ∧ Hid (dnL f ys i m = R) ∧ Hid (PV wr base b (.slice A n c) ys) ∧ Hid (Pq base b (.slice A n c) w (.slice A n c) wr)) (fun t _ => m + 1 - (intOf t).toNat)
  case atStart => exact ⟨i0, m + 1, xs, rfl, hi0, Lib.hid ⟨by omega, by omega⟩, Lib.hid HN.out.symm, HR, H, Lib.hid (Pq.refl _ _ _ _)⟩
  case round =>
    obtain ⟨i, f, ys, rfl, hi2, HF, HL, HU, HP, HQ⟩ := hrel
    have c0 : wr.cell? ⟨b, 0, none⟩ = some (.slice A n c) := cell_of_heap HP.out.blk (j := 0) rfl
    obtain ⟨f, rfl⟩ : ∃ f', f = f' + 1 := ⟨f - 1, by have := HF.out.2; omega⟩
    obtain ⟨a, ha⟩ : ∃ a, a = 2 * i + 1 := ⟨_, rfl⟩
    obtain ⟨a2, ha2⟩ : ∃ a2, a2 = a + 1 := ⟨_, rfl⟩
    have e1 : 2 * (i : Int) + 1 = (a : Int) := by omega
    have e2 : (a : Int) + 1 = (a2 : Int) := by omega
    have ab : a ≤ 4000001 := by omega
    have HA1 := Lib.hid ha
    have HA2 := Lib.hid ha2
    clear ha ha2
    have hml := mLess b A n c wr c0
    have hf := HU.out
    simp only [dnL] at hf
    rw [← HA1.out] at hf
    by_cases q1 : m ≤ a
    · rw [if_pos q1] at hf
      have HU2 := Lib.hid hf
      clear hf HU
      go_wp2
      go_ret
      rw [← HU2.out]
      exact ⟨⟨_, rfl⟩, HP.out, HQ.out⟩
    · rw [if_neg q1] at hf
      have hin : i < n := by have := HA1.out; omega
      have han : a < n := by omega
      have HUU := Lib.hid hf
      clear hf HU
      by_cases q2 : a2 < m
      · have LEA := Lib.hid (fun (W : World) (hW : PV W base b (.slice A n c) ys) => pv_less base b a2 a A n c ys W hW (by rw [HL.out]; omega) (by rw [HL.out]; omega))
        obtain ⟨r1, hr1⟩ : ∃ r, r = befB (at_ ys a2) (at_ ys a) := ⟨_, rfl⟩
        have HR1 := Lib.hid hr1
        clear hr1
        cases r1 with
        | true =>
          have HD : Hid (dnC ys i m = a2) := Lib.hid (by
            have h1 := HA1.out
            have h2 := HA2.out
            unfold dnC
            rw [show 2 * i + 2 = a2 by omega, show 2 * i + 1 = a by omega, if_pos ⟨q2, HR1.out.symm⟩])
          have LEB := Lib.hid (fun (W : World) (hW : PV W base b (.slice A n c) ys) => pv_less base b a2 i A n c ys W hW (by rw [HL.out]; omega) (by rw [HL.out]; omega))
          obtain ⟨r2, hr2⟩ : ∃ r, r = befB (at_ ys a2) (at_ ys i) := ⟨_, rfl⟩
          have HR2 := Lib.hid hr2
          clear hr2
          have hf := HUU.out
          rw [HD.out, ← HR2.out] at hf
          have HU := Lib.hid hf
          clear hf
          cases r2 with
          | false =>
            go_wp2_with (first
              | (go_at_call 59; with_reducible refine (LEA.out _ HP.out).mono ?_; rintro e w2 ⟨rfl, hb⟩; rw [← HR1.out]; have HQ := Lib.hid (HQ.out.trans (Pq.of_below hb (Nat.le_trans hbase HQ.out.size))); have HP := Lib.hid (HP.out.below hb); have hml := mLess b A n c w2 (cell_of_heap HP.out.blk (j := 0) rfl); clear hb)
              | (go_at_call 59; with_reducible refine (LEB.out _ HP.out).mono ?_; rintro e w3 ⟨rfl, hb⟩; rw [← HR2.out]; have HQ := Lib.hid (HQ.out.trans (Pq.of_below hb (Nat.le_trans hbase HQ.out.size))); have HP := Lib.hid (HP.out.below hb); have hms := mSwap b A n c w3 (cell_of_heap HP.out.blk (j := 0) rfl); clear hb))
            go_ret
            have hf := HU.out
            rw [if_neg (by simp)] at hf
            rw [← hf]
            exact ⟨⟨_, rfl⟩, HP.out, HQ.out⟩
          | true =>
            go_wp2_with (first
              | (go_at_call 59; with_reducible refine (LEA.out _ HP.out).mono ?_; rintro e w2 ⟨rfl, hb⟩; rw [← HR1.out]; have HQ := Lib.hid (HQ.out.trans (Pq.of_below hb (Nat.le_trans hbase HQ.out.size))); have HP := Lib.hid (HP.out.below hb); have hml := mLess b A n c w2 (cell_of_heap HP.out.blk (j := 0) rfl); clear hb)
              | (go_at_call 59; with_reducible refine (LEB.out _ HP.out).mono ?_; rintro e w3 ⟨rfl, hb⟩; rw [← HR2.out]; have HQ := Lib.hid (HQ.out.trans (Pq.of_below hb (Nat.le_trans hbase HQ.out.size))); have HP := Lib.hid (HP.out.below hb); have hms := mSwap b A n c w3 (cell_of_heap HP.out.blk (j := 0) rfl); clear hb)
              | (go_at_call 62; refine (pv_swap base b i a2 A n c ys _ HP.out (by rw [HL.out]; omega) (by rw [HL.out]; omega)).mono ?_; rintro e w4 ⟨rfl, hp4, hq4⟩; have HQ := Lib.hid (HQ.out.trans hq4); have HP := Lib.hid hp4; clear hp4 hq4))
            go_roundw
            case rel =>
              have hf := HU.out
              rw [if_pos (by trivial)] at hf
              have h1 := HA1.out
              have h2 := HA2.out
              have h3 := HF.out
              exact ⟨a2, f, swapN ys i a2, rfl, by omega, Lib.hid ⟨by omega, by omega⟩, Lib.hid (by rw [swapN_len]; exact HL.out), Lib.hid hf, HP, HQ⟩
            case measure =>
              have h1 := HA1.out
              have h2 := HA2.out
              simp [intOf]
              omega
        | false =>
          have HD : Hid (dnC ys i m = a) := Lib.hid (by
            have h1 := HA1.out
            have h2 := HA2.out
            unfold dnC
            rw [show 2 * i + 2 = a2 by omega, show 2 * i + 1 = a by omega, if_neg (fun q => by have := q.2; rw [← HR1.out] at this; cases this)])
          have LEB := Lib.hid (fun (W : World) (hW : PV W base b (.slice A n c) ys) => pv_less base b a i A n c ys W hW (by rw [HL.out]; omega) (by rw [HL.out]; omega))
          obtain ⟨r2, hr2⟩ : ∃ r, r = befB (at_ ys a) (at_ ys i) := ⟨_, rfl⟩
          have HR2 := Lib.hid hr2
          clear hr2
          have hf := HUU.out
          rw [HD.out, ← HR2.out] at hf
          have HU := Lib.hid hf
          clear hf
          cases r2 with
          | false =>
            go_wp2_with (first
              | (go_at_call 59; with_reducible refine (LEA.out _ HP.out).mono ?_; rintro e w2 ⟨rfl, hb⟩; rw [← HR1.out]; have HQ := Lib.hid (HQ.out.trans (Pq.of_below hb (Nat.le_trans hbase HQ.out.size))); have HP := Lib.hid (HP.out.below hb); have hml := mLess b A n c w2 (cell_of_heap HP.out.blk (j := 0) rfl); clear hb)
              | (go_at_call 59; with_reducible refine (LEB.out _ HP.out).mono ?_; rintro e w3 ⟨rfl, hb⟩; rw [← HR2.out]; have HQ := Lib.hid (HQ.out.trans (Pq.of_below hb (Nat.le_trans hbase HQ.out.size))); have HP := Lib.hid (HP.out.below hb); have hms := mSwap b A n c w3 (cell_of_heap HP.out.blk (j := 0) rfl); clear hb))
            go_ret
            have hf := HU.out
            rw [if_neg (by simp)] at hf
            rw [← hf]
            exact ⟨⟨_, rfl⟩, HP.out, HQ.out⟩
          | true =>
            go_wp2_with (first
              | (go_at_call 59; with_reducible refine (LEA.out _ HP.out).mono ?_; rintro e w2 ⟨rfl, hb⟩; rw [← HR1.out]; have HQ := Lib.hid (HQ.out.trans (Pq.of_below hb (Nat.le_trans hbase HQ.out.size))); have HP := Lib.hid (HP.out.below hb); have hml := mLess b A n c w2 (cell_of_heap HP.out.blk (j := 0) rfl); clear hb)
              | (go_at_call 59; with_reducible refine (LEB.out _ HP.out).mono ?_; rintro e w3 ⟨rfl, hb⟩; rw [← HR2.out]; have HQ := Lib.hid (HQ.out.trans (Pq.of_below hb (Nat.le_trans hbase HQ.out.size))); have HP := Lib.hid (HP.out.below hb); have hms := mSwap b A n c w3 (cell_of_heap HP.out.blk (j := 0) rfl); clear hb)
              | (go_at_call 62; refine (pv_swap base b i a A n c ys _ HP.out (by rw [HL.out]; omega) (by rw [HL.out]; omega)).mono ?_; rintro e w4 ⟨rfl, hp4, hq4⟩; have HQ := Lib.hid (HQ.out.trans hq4); have HP := Lib.hid hp4; clear hp4 hq4))
            go_roundw
            case rel =>
              have hf := HU.out
              rw [if_pos (by trivial)] at hf
              have h1 := HA1.out
              have h2 := HA2.out
              have h3 := HF.out
              exact ⟨a, f, swapN ys i a, rfl, by omega, Lib.hid ⟨by omega, by omega⟩, Lib.hid (by rw [swapN_len]; exact HL.out), Lib.hid hf, HP, HQ⟩
            case measure =>
              have h1 := HA1.out
              have h2 := HA2.out
              simp [intOf]
              omega
      · have HD : Hid (dnC ys i m = a) := Lib.hid (by
          have h1 := HA1.out
          have h2 := HA2.out
          unfold dnC
          rw [show 2 * i + 2 = a2 by omega, show 2 * i + 1 = a by omega, if_neg (fun q => q2 q.1)])
        have LEB := Lib.hid (fun (W : World) (hW : PV W base b (.slice A n c) ys) => pv_less base b a i A n c ys W hW (by rw [HL.out]; omega) (by rw [HL.out]; omega))
        obtain ⟨r2, hr2⟩ : ∃ r, r = befB (at_ ys a) (at_ ys i) := ⟨_, rfl⟩
        have HR2 := Lib.hid hr2
        clear hr2
        have hf := HUU.out
        rw [HD.out, ← HR2.out] at hf
        have HU := Lib.hid hf
        clear hf
        cases r2 with
        | false =>
          go_wp2_with (first
            | (go_at_call 59; with_reducible refine (LEB.out _ HP.out).mono ?_; rintro e w3 ⟨rfl, hb⟩; rw [← HR2.out]; have HQ := Lib.hid (HQ.out.trans (Pq.of_below hb (Nat.le_trans hbase HQ.out.size))); have HP := Lib.hid (HP.out.below hb); have hms := mSwap b A n c w3 (cell_of_heap HP.out.blk (j := 0) rfl); clear hb))
          go_ret
          have hf := HU.out
          rw [if_neg (by simp)] at hf
          rw [← hf]
          exact ⟨⟨_, rfl⟩, HP.out, HQ.out⟩
        | true =>
          go_wp2_with (first
            | (go_at_call 59; with_reducible refine (LEB.out _ HP.out).mono ?_; rintro e w3 ⟨rfl, hb⟩; rw [← HR2.out]; have HQ := Lib.hid (HQ.out.trans (Pq.of_below hb (Nat.le_trans hbase HQ.out.size))); have HP := Lib.hid (HP.out.below hb); have hms := mSwap b A n c w3 (cell_of_heap HP.out.blk (j := 0) rfl); clear hb)
            | (go_at_call 62; refine (pv_swap base b i a A n c ys _ HP.out (by rw [HL.out]; omega) (by rw [HL.out]; omega)).mono ?_; rintro e w4 ⟨rfl, hp4, hq4⟩; have HQ := Lib.hid (HQ.out.trans hq4); have HP := Lib.hid hp4; clear hp4 hq4))
          go_roundw
          case rel =>
            have hf := HU.out
            rw [if_pos (by trivial)] at hf
            have h1 := HA1.out
            have h2 := HA2.out
            have h3 := HF.out
            exact ⟨a, f, swapN ys i a, rfl, by omega, Lib.hid ⟨by omega, by omega⟩, Lib.hid (by rw [swapN_len]; exact HL.out), Lib.hid hf, HP, HQ⟩
          case measure =>
            have h1 := HA1.out
            have h2 := HA2.out
            simp [intOf]
            omega
end Go.Proofs.Ytndfoohdoadkfaa
