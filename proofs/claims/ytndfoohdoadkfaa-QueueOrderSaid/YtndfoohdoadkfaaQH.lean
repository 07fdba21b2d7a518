/- heap.up and heap.down on a pile. -/
import Derived.Test.YtndfoohdoadkfaaQO
set_option linter.unusedVariables false
set_option linter.unusedSimpArgs false
namespace Go.Proofs.Ytndfoohdoadkfaa
open Go.RowKit
theorem mLen (b : Nat) (A : Option Addr) (n c : Nat) (w : World) (h : w.cell? ⟨b, 0, none⟩ = some (.slice A n c)) : (method 202 47 (.pointer (some ⟨b, 0, none⟩)) "Len").run Try.prog w = .ok (34, .slice A n c) w := meth (by kernel_rfl) 201 b A n c w h
theorem cf34 (args : Array Value) (w : World) : (callFunc 34 args).run Try.prog w = .ok (.enter 34 args) w := by kernel_rfl
theorem mLess (b : Nat) (A : Option Addr) (n c : Nat) (w : World) (h : w.cell? ⟨b, 0, none⟩ = some (.slice A n c)) : (method 202 47 (.pointer (some ⟨b, 0, none⟩)) "Less").run Try.prog w = .ok (59, .slice A n c) w := meth (by kernel_rfl) 201 b A n c w h
theorem cf59 (args : Array Value) (w : World) : (callFunc 59 args).run Try.prog w = .ok (.enter 59 args) w := by kernel_rfl
theorem mSwap (b : Nat) (A : Option Addr) (n c : Nat) (w : World) (h : w.cell? ⟨b, 0, none⟩ = some (.slice A n c)) : (method 202 47 (.pointer (some ⟨b, 0, none⟩)) "Swap").run Try.prog w = .ok (62, .slice A n c) w := meth (by kernel_rfl) 201 b A n c w h
theorem cf62 (args : Array Value) (w : World) : (callFunc 62 args).run Try.prog w = .ok (.enter 62 args) w := by kernel_rfl
theorem mPush (x : Value) (w : World) : (method 202 47 x "Push").run Try.prog w = .ok (61, x) w := by kernel_rfl
theorem cf61 (args : Array Value) (w : World) : (callFunc 61 args).run Try.prog w = .ok (.enter 61 args) w := by kernel_rfl
theorem mPop (x : Value) (w : World) : (method 202 47 x "Pop").run Try.prog w = .ok (60, x) w := by kernel_rfl
theorem cf60 (args : Array Value) (w : World) : (callFunc 60 args).run Try.prog w = .ok (.enter 60 args) w := by kernel_rfl
attribute [local go_sem] mPush mPop cf34 cf59 cf62 cf60 cf61
def at_ (xs : List It) (k : Nat) : It := xs.getD k ⟨0, 0, 0⟩
theorem at_get {xs : List It} {k : Nat} (h : k < xs.length) : xs[k]? = some (at_ xs k) := by
  rw [at_, List.getD_eq_getElem?_getD, List.getElem?_eq_getElem h]
  rfl
def swapN (xs : List It) (i k : Nat) : List It := (xs.set i (at_ xs k)).set k (at_ xs i)
theorem swapN_len (xs : List It) (i k : Nat) : (swapN xs i k).length = xs.length := by simp [swapN]
def upL : Nat → List It → Nat → List It
  | 0, xs, _ => xs
  | f + 1, xs, j => if (j - 1) / 2 = j then xs else if befB (at_ xs j) (at_ xs ((j - 1) / 2)) = true then upL f (swapN xs ((j - 1) / 2) j) ((j - 1) / 2) else xs
def dnC (xs : List It) (i n : Nat) : Nat := if 2 * i + 2 < n ∧ befB (at_ xs (2 * i + 2)) (at_ xs (2 * i + 1)) = true then 2 * i + 2 else 2 * i + 1
def dnL : Nat → List It → Nat → Nat → List It
  | 0, xs, _, _ => xs
  | f + 1, xs, i, n => if n ≤ 2 * i + 1 then xs else if befB (at_ xs (dnC xs i n)) (at_ xs i) = true then dnL f (swapN xs i (dnC xs i n)) (dnC xs i n) n else xs
theorem upL_len : ∀ (f : Nat) (xs : List It) (j : Nat), (upL f xs j).length = xs.length
  | 0, _, _ => rfl
  | f + 1, xs, j => by
    simp only [upL]
    split
    · rfl
    · split
      · rw [upL_len f, swapN_len]
      · rfl
theorem dnL_len : ∀ (f : Nat) (xs : List It) (i n : Nat), (dnL f xs i n).length = xs.length
  | 0, _, _, _ => rfl
  | f + 1, xs, i, n => by
    simp only [dnL]
    split
    · rfl
    · split
      · rw [dnL_len f, swapN_len]
      · rfl
theorem pv_less (base b i k : Nat) (A : Option Addr) (n c : Nat) (xs : List It) (w : World) (h : PV w base b (.slice A n c) xs) (hi : i < xs.length) (hk : k < xs.length) :
    Calls Try.prog 59 #[.slice A n c, .int .i64 i, .int .i64 k] w fun e w' => e = .returned (.bool (befB (at_ xs i) (at_ xs k))) ∧ Below w.heap.size w w' := by
  obtain ⟨A', c', e, hs⟩ := h.shape
  injection e with e1 e2 e3
  subst e1 e2 e3
  rcases hs with ⟨_, h0, _⟩ | ⟨g, rfl, _⟩
  · omega
  · exact less_any base g _ c i k xs _ _ w h.row hi hk (at_get hi) (at_get hk)
theorem pv_swap (base b i k : Nat) (A : Option Addr) (n c : Nat) (xs : List It) (w : World) (h : PV w base b (.slice A n c) xs) (hi : i < xs.length) (hk : k < xs.length) :
    Calls Try.prog 62 #[.slice A n c, .int .i64 i, .int .i64 k] w fun e w' => e = .returned (.tuple #[]) ∧ PV w' base b (.slice A n c) (swapN xs i k) ∧ Pq base b (.slice A n c) w (.slice A n c) w' := by
  obtain ⟨A', c', e, hs⟩ := h.shape
  injection e with e1 e2 e3
  subst e1 e2 e3
  rcases hs with ⟨_, h0, _⟩ | ⟨g, rfl, hg, hgb, hgl, _⟩
  · omega
  · refine (swap_any base g _ c i k xs _ _ w h.row rfl hi hk (at_get hi) (at_get hk)).mono fun e w' ⟨he, hr, hw⟩ => ⟨he, ⟨(hw.far b hgb.symm).trans h.blk, ?_⟩, ?_⟩
    · have : (swapN xs i k).length = xs.length := swapN_len _ _ _
      rw [this]
      exact hr
    · exact ⟨Nat.le_of_eq hw.size.symm, fun j _ _ hv => hw.far j (fun q => hv (by rw [q]; rfl)), fun _ q => .inl q, fun B w0 h1 _ h3 => hw.bel B w0 (by omega) h3⟩
theorem half (j : Nat) : ((j : Int) - 1).tdiv 2 = (((j - 1) / 2 : Nat) : Int) := by
  rcases Nat.eq_zero_or_pos j with rfl | h
  · rfl
  · rw [Int.tdiv_eq_ediv_of_nonneg (by omega)]
    omega
set_option maxHeartbeats 1000000 in
theorem up_any (base b : Nat) (v : Value) (xs : List It) (j : Nat) (w : World) (h : PV w base b v xs) (hbase : base ≤ w.heap.size) (hj : j < xs.length) (hl : xs.length ≤ 2000000) :
    Calls Try.prog 42 #[.iface 47 (.pointer (some ⟨b, 0, none⟩)), .int .i64 j] w fun e w' => e = .returned (.tuple #[]) ∧ PV w' base b v (upL (j + 1) xs j) ∧ Pq base b v w v w' := by
  obtain ⟨A, c, rfl, _⟩ := h.shape
  obtain ⟨n, hn⟩ : ∃ n, n = xs.length := ⟨_, rfl⟩
  rw [← hn] at h hj hl ⊢
  obtain ⟨R, hR⟩ : ∃ R, upL (j + 1) xs j = R := ⟨_, rfl⟩
  rw [hR]
  have HR := Lib.hid hR
  have H := Lib.hid h
  have HN := Lib.hid hn
  clear hR h hn
  go_enter Try.func42, Try.ntmps42
  go_wp2
  go_loopw [1] (fun t wr => ∃ (i f : Nat) (ys : List It), t = .int .i64 i ∧ i < n ∧ i < f ∧ Hid (ys.length = n) ∧ Hid (upL f ys i = R) ∧ Hid (PV wr base b (.slice A n c) ys) ∧ Hid (Pq base b (.slice A n c) w (.slice A n c) wr)) (fun t _ => (intOf t).toNat)
  case atStart => exact ⟨j, j + 1, xs, rfl, hj, by omega, Lib.hid HN.out.symm, HR, H, Lib.hid (Pq.refl _ _ _ _)⟩
  case round =>
    obtain ⟨i, f, ys, rfl, hin, hif, HL, HU, HP, HQ⟩ := hrel
    have hd := half i
    have c0 : wr.cell? ⟨b, 0, none⟩ = some (.slice A n c) := cell_of_heap HP.out.blk (j := 0) rfl
    obtain ⟨f, rfl⟩ : ∃ f', f = f' + 1 := ⟨f - 1, by omega⟩
    obtain ⟨p, hp⟩ : ∃ p, p = (i - 1) / 2 := ⟨_, rfl⟩
    rw [← hp] at hd
    have HPp := Lib.hid hp
    clear hp
    have hps : p < n := by
      have := HPp.out
      omega
    have LESS : ∀ W : World, PV W base b (.slice A n c) ys → Calls Try.prog 59 #[.slice A n c, .int .i64 i, .int .i64 p] W fun e w' => e = .returned (.bool (befB (at_ ys i) (at_ ys p))) ∧ Below W.heap.size W w' := fun W hW => by
      have := pv_less base b i p A n c ys W hW (by rw [HL.out]; exact hin) (by rw [HL.out]; exact hps)
      exact this
    have LE := Lib.hid LESS
    clear LESS
    have hml := mLess b A n c wr c0
    by_cases q : p = i
    · go_wp2
      go_end0
      have hf := HU.out
      rw [upL, if_pos (by rw [← HPp.out]; exact q)] at hf
      rw [← hf]
      exact ⟨rfl, HP.out, HQ.out⟩
    · obtain ⟨r, hr⟩ : ∃ r, r = befB (at_ ys i) (at_ ys p) := ⟨_, rfl⟩
      have HRr := Lib.hid hr
      clear hr
      cases r with
      | false =>
        go_wp2_with (go_at_call 59; refine (LE.out _ HP.out).mono ?_; rintro e w2 ⟨rfl, hb⟩; rw [← HRr.out])
        go_end0
        have hf := HU.out
        rw [upL, if_neg (by rw [← HPp.out]; exact q), if_neg (by rw [← HPp.out, ← HRr.out]; simp)] at hf
        rw [← hf]
        exact ⟨rfl, HP.out.below hb, HQ.out.trans (Pq.of_below hb (Nat.le_trans hbase HQ.out.size))⟩
      | true =>
        go_wp2_with (first
          | (go_at_call 59; refine (LE.out _ HP.out).mono ?_; rintro e w2 ⟨rfl, hb⟩; rw [← HRr.out]; have HP2 := Lib.hid (HP.out.below hb); have hms := mSwap b A n c w2 (cell_of_heap HP2.out.blk (j := 0) rfl); have HQ2 := Lib.hid (HQ.out.trans (Pq.of_below hb (Nat.le_trans hbase HQ.out.size))); clear hb)
          | (go_at_call 62; refine (pv_swap base b p i A n c ys _ HP2.out (by rw [HL.out]; exact hps) (by rw [HL.out]; exact hin)).mono ?_; rintro e w3 ⟨rfl, hp3, hq3⟩; have HP3 := Lib.hid hp3; have HQ3 := Lib.hid (HQ2.out.trans hq3); clear hp3 hq3))
        go_roundw
        case rel =>
          have hf := HU.out
          rw [upL, if_neg (by rw [← HPp.out]; exact q), if_pos (by rw [← HPp.out, ← HRr.out]), ← HPp.out] at hf
          refine ⟨p, f, swapN ys p i, rfl, hps, ?_, Lib.hid (by rw [swapN_len]; exact HL.out), Lib.hid hf, HP3, HQ3⟩
          have := HPp.out
          omega
        case measure =>
          have := HPp.out
          simp [intOf]
          omega
end Go.Proofs.Ytndfoohdoadkfaa
