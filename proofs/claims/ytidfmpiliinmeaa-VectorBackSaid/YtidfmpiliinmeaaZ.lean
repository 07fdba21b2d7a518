/- The plain law: what Put wrote is what Take reads; wire.Open. -/
import Derived.Test.YtidfmpiliinmeaaY
import Derived.Test.YtidfmpiliinmeaaOp
set_option linter.unusedVariables false
set_option linter.unusedSimpArgs false
namespace Go.Proofs.Ytidfmpiliinmeaa
open Go.RowKit
open Go.Proofs.YtidfmpiliinmeaaW.PrintWords (nums ReadsInt print_append_row own_reads own_nil nums_length)
/-- A number's bytes behind their count. -/
def numB (n : Int) : List Int := if n ≤ 0 then [] else if n < 256 then [n] else [n / 256, n % 256]
theorem numL_is (n : Int) : numL n = ((numB n).length : Int) :: numB n := by
  unfold numL numB
  split
  · rfl
  · split <;> rfl
theorem numB_ok (n : Int) (h0 : 0 ≤ n) (h1 : n < 65536) : (numB n).length ≤ 6 ∧ (∀ x ∈ numB n, 0 ≤ x ∧ x ≤ 255) ∧ (0 < (numB n).length → (numB n).getD 0 0 ≠ 0) ∧ valL (numB n) = n := by
  unfold numB
  by_cases a : n ≤ 0
  · rw [if_pos a]
    refine ⟨by simp, by simp, by simp, ?_⟩
    simp [valL]
    omega
  · rw [if_neg a]
    by_cases b : n < 256
    · rw [if_pos b]
      refine ⟨by simp, ?_, ?_, by simp [valL]⟩
      · intro x hx
        simp at hx
        omega
      · intro _
        simp
        omega
    · rw [if_neg b]
      refine ⟨by simp, ?_, ?_, ?_⟩
      · intro x hx
        simp at hx
        omega
      · intro _
        simp
        omega
      · simp [valL]
        omega
def flatFrom (a : Nat → Int) : Nat → Nat → List Int
  | _, 0 => []
  | k, m + 1 => numL (a k) ++ flatFrom a (k + 1) m
theorem flat_from (a : Nat → Int) : ∀ m k, flatTo a (k + m) = flatTo a k ++ flatFrom a k m
  | 0, k => by simp [flatFrom]
  | m + 1, k => by
    rw [show k + (m + 1) = (k + 1) + m by omega, flat_from a m (k + 1)]
    simp [flatTo, flatFrom]
theorem put_from (a : Nat → Int) : putL a = numL (lastTo a 16) ++ flatFrom a 0 (lastTo a 16) := by
  have := flat_from a (lastTo a 16) 0
  simp only [Nat.zero_add] at this
  rw [putL, this]
  simp [flatTo]
theorem last_pos (a : Nat → Int) : ∀ k, lastTo a k = 0 ∨ 0 < a (lastTo a k - 1)
  | 0 => .inl rfl
  | k + 1 => by
    simp only [lastTo]
    by_cases h : 0 < a k
    · rw [if_pos h]
      exact .inr (by simpa using h)
    · rw [if_neg h]
      exact last_pos a k
theorem last_behind (a : Nat → Int) : ∀ k j, j < k → lastTo a k ≤ j → a j ≤ 0
  | 0, j, h, _ => absurd h (Nat.not_lt_zero j)
  | k + 1, j, h, hl => by
    simp only [lastTo] at hl
    by_cases q : 0 < a k
    · rw [if_pos q] at hl
      omega
    · rw [if_neg q] at hl
      by_cases e : j = k
      · subst e
        omega
      · exact last_behind a k j (by omega) hl
def headF (a : Nat → Int) (n : Nat) (j : Nat) : Int := if j < n then a j else 0
theorem head_all (a : Nat → Int) (hr : rightB a = true) : eqV (headF a (lastTo a 16)) a = true := by
  rw [eqV_iff]
  intro i hi
  unfold headF
  by_cases h : i < lastTo a 16
  · rw [if_pos h]
  · rw [if_neg h]
    have h1 := last_behind a 16 i hi (by omega)
    have h2 := (right_iff a).1 hr i hi
    omega
theorem CS_set (f : Nat → Int) (k : Nat) (x : Int) (hk : k < 16) : (CS f).setIfInBounds k (.int .i64 x) = CS (fun j => if j = k then x else f j) := by
  rcases (show k = 0 ∨ k = 1 ∨ k = 2 ∨ k = 3 ∨ k = 4 ∨ k = 5 ∨ k = 6 ∨ k = 7 ∨ k = 8 ∨ k = 9 ∨ k = 10 ∨ k = 11 ∨ k = 12 ∨ k = 13 ∨ k = 14 ∨ k = 15 by omega) with rfl | rfl | rfl | rfl | rfl | rfl | rfl | rfl | rfl | rfl | rfl | rfl | rfl | rfl | rfl | rfl <;> rfl
theorem CS_ext {f g : Nat → Int} (h : ∀ i, i < 16 → f i = g i) : CS f = CS g := by
  simp only [CS, h 0 (by omega), h 1 (by omega), h 2 (by omega), h 3 (by omega), h 4 (by omega), h 5 (by omega), h 6 (by omega), h 7 (by omega), h 8 (by omega), h 9 (by omega), h 10 (by omega), h 11 (by omega), h 12 (by omega), h 13 (by omega), h 14 (by omega), h 15 (by omega)]
theorem head_next (a : Nat → Int) (k : Nat) (hk : k < 16) : (CS (headF a k)).setIfInBounds k (.int .i64 (a k)) = CS (headF a (k + 1)) := by
  rw [CS_set _ _ _ hk]
  apply CS_ext
  intro i hi
  unfold headF
  by_cases e : i = k
  · subst e
    rw [if_pos rfl, if_pos (by omega)]
  · rw [if_neg e]
    by_cases h : i < k
    · rw [if_pos h, if_pos (by omega)]
    · rw [if_neg h, if_neg (by omega)]
theorem clone_own (v : Value) (xs : List Int) (base : Nat) (w : World) (h : w.ownsRow base 5 1 v xs.length (nums .u8 xs)) (hx : 0 < xs.length) (hl : xs.length ≤ 1000) : Calls Try.prog 35 #[v] w fun e w' => ∃ v', e = .returned v' ∧ w'.ownsRow w.heap.size 5 1 v' xs.length (nums .u8 xs) ∧ Below w.heap.size w w' := by
  obtain ⟨A, c, rfl, hr⟩ := own_reads h
  cases A with
  | none =>
    obtain ⟨ad, h1, _⟩ := hr.2.2 hx
    cases h1
  | some ad =>
    have Hr := Lib.hid hr
    clear hr h
    have hbw : Below w.heap.size w (w.alloc (.cells #[] 5)) := below_alloc (Below.refl _ _) _
    have hr' : Hid (ReadsInt (w.alloc (.cells #[] 5)) .u8 (some ad) xs.length xs) := Lib.hid (Hr.out.below hbw)
    have ho : Hid ((w.alloc (.cells #[] 5)).ownsRow w.heap.size 5 1 (.slice (some ⟨w.heap.size, 0, none⟩) 0 0) ([] : List Int).length (nums .u8 [])) := Lib.hid (World.ownsRow_lit (base := w.heap.size) (e := 5) (size := 1) w #[] 0 (Nat.le_refl _) (by simp [maxLen]) rfl)
    have he := fun W => Lib.run_eql_slice_nil (P := Try.prog) W 33 5 (some ad) xs.length c 0 0 Try.underlying33
    go_enter Try.func35, Try.ntmps35
    go_wp2_with (at_builtin; refine print_append_row (w0 := w) w.heap.size rfl (.tmp 5) (.tmp 6) 33 5 .u8 1 rfl Try.underlying33 u8_info (by omega) _ [] xs (some ad) xs.length c rfl rfl ho.out hr'.out hbw (by simp) (by simp; omega) ?_; intro v4 w4 hO4 hB4 hg4 hat4; have hO4 := Lib.hid hO4; clear hg4 hat4)
    go_ret
    exact ⟨v4, rfl, by simpa using hO4.out, hB4⟩
theorem open_go (v : Value) (xs : List Int) (base : Nat) (w : World) (h : w.ownsRow base 5 1 v xs.length (nums .u8 xs)) (hx : 0 < xs.length) (hl : xs.length ≤ 1000) :
    Calls Try.prog 19 #[v] w fun e w' => ∃ gr g c, e = .returned (rp gr) ∧ RdAt w' gr g 0 c xs ∧ w.heap.size ≤ gr ∧ Below w.heap.size w w' := by
  have H := Lib.hid h
  clear h
  go_enter Try.func19, Try.ntmps19
  go_wp2_with (go_at_call 35; refine (clone_own _ _ _ _ H.out hx hl).mono ?_; rintro e w1 ⟨v1, rfl, hO, hB⟩; obtain ⟨A, c, rfl, hr⟩ := own_reads hO; have hO := Lib.hid hO; have hr := Lib.hid hr)
  go_ret
  rcases hO.out.2 with ⟨e, e2⟩ | ⟨g, cap, cur, e, hg, hh, hnc, hcm, _⟩
  · have := hO.out.1
    rw [e2] at hx
    omega
  · injection e with e1 e2 e3
    subst e1 e3
    have hlt := heap_lt hh
    refine ⟨w1.heap.size, g, _, rfl, ⟨heap_alloc_new w1 _, ?_, by omega, by simp; omega, hnc, hcm⟩, hB.size, below_alloc hB _⟩
    intro j hj
    obtain ⟨ad, h1, h2⟩ := hr.out.2.2 hx
    injection h1 with h1
    subst h1
    have := h2 j hj
    rw [show (⟨g, 0, none⟩ : Addr).add j = ⟨g, 0 + j, none⟩ by rcases j with _ | j <;> simp [Addr.add]] at this
    exact ((below_alloc (Below.refl w1.heap.size w1) _).cell (p := ⟨g, 0 + j, none⟩) hlt).trans this
end Go.Proofs.Ytidfmpiliinmeaa
