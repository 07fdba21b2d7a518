/- Walk of vector.Put: the bytes of a vector. -/
import Derived.Test.YtidfmpiliinmeaaD
import Derived.Test.YtidfmpiliinmeaaPVectorLatticex1
set_option linter.unusedVariables false
set_option linter.unusedSimpArgs false
namespace Go.Proofs.Ytidfmpiliinmeaa
open Go.RowKit
open Go.Proofs.YtidfmpiliinmeaaW.PrintWords (nums Kd ReadsInt print_append_row own_reads pw_own_below shr own_weaken nums_length)
theorem row_of_R {k : IntKind} {e base : Nat} {w : World} {ok : Nat → Prop} {v : Value} {xs : List Int} (h : Kd.R (Kd.int k) e w base ok v xs) : w.ownsRow base e 1 v xs.length (nums k xs) := by
  obtain ⟨_, inner, ho, hl, hr⟩ := h
  have e1 : inner = nums k xs := by
    apply List.ext_getElem?
    intro j
    rcases Nat.lt_or_ge j xs.length with hj | hj
    · have hlt : j < inner.length := by simp only [show (Kd.int k).sz = 1 from rfl] at hl; omega
      have := hr j _ (List.getElem?_eq_getElem hj)
      have h2 : (inner.drop (j * 1)).take 1 = [.int k xs[j]] := this
      rw [Nat.mul_one, List.drop_eq_getElem_cons hlt, List.take_succ_cons, List.take_zero] at h2
      rw [List.getElem?_eq_getElem hlt]
      simp only [List.cons.injEq, and_true] at h2
      rw [h2]
      simp [nums, hj]
    · have : inner.length ≤ j := by simp only [show (Kd.int k).sz = 1 from rfl] at hl; omega
      rw [List.getElem?_eq_none this, List.getElem?_eq_none (by simp [nums]; omega)]
  rw [← e1]
  exact ho
/-- The bytes of a number (here: below 65536). -/
def numL (n : Int) : List Int := if n ≤ 0 then [0] else if n < 256 then [1, n] else [2, n / 256, n % 256]
theorem numL_len (n : Int) : 1 ≤ (numL n).length ∧ (numL n).length ≤ 3 := by
  unfold numL
  split
  · simp
  · split <;> simp
theorem num_comes (n : Int) (h0 : 0 ≤ n) (h1 : n < 65536) : PVectorLattice.wire_Num.f 9 n = some (numL n, 0) := by
  have s40 : shr .i64 n 40 = 0 := by simp [shr, IntKind.bits]; omega
  have s32 : shr .i64 n 32 = 0 := by simp [shr, IntKind.bits]; omega
  have s24 : shr .i64 n 24 = 0 := by simp [shr, IntKind.bits]; omega
  have s16 : shr .i64 n 16 = 0 := by simp [shr, IntKind.bits]; omega
  have s8 : shr .i64 n 8 = n / 256 := by simp [shr, IntKind.bits]
  have s0 : shr .i64 n 0 = n := by simp [shr, IntKind.bits]
  unfold PVectorLattice.wire_Num.f
  rw [if_neg (by omega)]
  simp only [PVectorLattice.wire_Num.j0, PVectorLattice.wire_Num.l0, show decide (n > 281474976710655) = false by simp; omega]
  unfold numL
  by_cases a : n ≤ 0
  · obtain rfl : n = 0 := by omega
    simp [s40, s32, s24, s16, s8, s0, wrap64]
  · rw [if_neg a]
    have a' : 0 < n := by omega
    by_cases b : n < 256
    · have e1 : n / 256 = 0 := by omega
      have e2 : n % 256 = n := by omega
      rw [if_pos b]
      simp [s40, s32, s24, s16, s8, s0, wrap64, e1, e2, a']
    · have e1 : 0 < n / 256 := by omega
      have e2 : n / 256 % 256 = n / 256 := by omega
      rw [if_neg b]
      simp [s40, s32, s24, s16, s8, s0, wrap64, e1, e2, a']
/-- The place behind the last number above 0. -/
def lastTo (a : Nat → Int) : Nat → Nat
  | 0 => 0
  | k + 1 => if 0 < a k then k + 1 else lastTo a k
theorem lastTo_le (a : Nat → Int) : ∀ k, lastTo a k ≤ k
  | 0 => Nat.le_refl _
  | k + 1 => by
    have := lastTo_le a k
    simp only [lastTo]
    split <;> omega
def flatTo (a : Nat → Int) : Nat → List Int
  | 0 => []
  | k + 1 => flatTo a k ++ numL (a k)
theorem flatTo_len (a : Nat → Int) : ∀ k, (flatTo a k).length ≤ 3 * k
  | 0 => by simp [flatTo]
  | k + 1 => by
    have := flatTo_len a k
    have := numL_len (a k)
    simp only [flatTo, List.length_append]
    omega
def putL (a : Nat → Int) : List Int := numL (lastTo a 16) ++ flatTo a (lastTo a 16)
theorem putL_len (a : Nat → Int) : (putL a).length ≤ 51 := by
  have h1 := numL_len (lastTo a 16)
  have h2 := flatTo_len a (lastTo a 16)
  have h3 := lastTo_le a 16
  simp only [putL, List.length_append]
  omega
set_option maxHeartbeats 4000000 in
theorem put_no (a : Nat → Int) (w : World) (hr : rightB a = false) :
    Calls Try.prog 14 #[.agg #[.int .i64 (a 0), .int .i64 (a 1), .int .i64 (a 2), .int .i64 (a 3), .int .i64 (a 4), .int .i64 (a 5), .int .i64 (a 6), .int .i64 (a 7), .int .i64 (a 8), .int .i64 (a 9), .int .i64 (a 10), .int .i64 (a 11), .int .i64 (a 12), .int .i64 (a 13), .int .i64 (a 14), .int .i64 (a 15)]] w fun e w' => e = .returned (.tuple #[.slice none 0 0, .int .i64 1]) ∧ Below w.heap.size w w' := by
  have Hr := Lib.hid hr
  go_enter Try.func14, Try.ntmps14
  go_wp2_with (go_at_call 12; refine (right_any a _).mono ?_; rintro e w1 ⟨rfl, hb⟩; obtain ⟨hc, hf⟩ := ch hb)
  go_ret2
  exact ⟨rfl, by (repeat (first | with_reducible exact Below.refl _ _ | with_reducible apply below_alloc | with_reducible apply below_drew1 | with_reducible assumption | (with_reducible refine Keep.below (by assumption)) | (with_reducible refine bel ?_ (by assumption)) | ((with_reducible refine below_set ?_ ?_); rotate_left; (focus (first | assumption | omega | (simp; done) | (simp; omega))))))⟩
end Go.Proofs.Ytidfmpiliinmeaa
