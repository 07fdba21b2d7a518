/- wire.number on bytes that are a number's. -/
import Derived.Test.YtidfmpiliinmeaaV
import Derived.WalkMore
set_option linter.unusedVariables false
set_option linter.unusedSimpArgs false
namespace Go.Proofs.Ytidfmpiliinmeaa
open Go.RowKit
open Go.Proofs.YtidfmpiliinmeaaW.PrintWords (nums ReadsInt)
/-- The bytes xs lie at off of block g. -/
def Rbs (W : World) (g off : Nat) (xs : List Int) : Prop := ∀ j, j < xs.length → W.cell? ⟨g, off + j, none⟩ = some (.int .u8 (xs.getD j 0))
/-- The number that bytes are. -/
def valL (bs : List Int) : Int := bs.foldl (fun n c => n * 256 + c) 0
theorem valL_snoc (bs : List Int) (c : Int) : valL (bs ++ [c]) = valL bs * 256 + c := by simp [valL]
theorem valL_take (bs : List Int) (k : Nat) (h : k < bs.length) : valL (bs.take (k + 1)) = valL (bs.take k) * 256 + bs.getD k 0 := by
  rw [List.take_succ_eq_append_getElem h, valL_snoc, List.getD_eq_getElem?_getD, List.getElem?_eq_getElem h]
  rfl
theorem valL_bd (bs : List Int) (hb : ∀ x ∈ bs, 0 ≤ x ∧ x ≤ 255) : ∀ k, k ≤ bs.length → 0 ≤ valL (bs.take k) ∧ valL (bs.take k) < 256 ^ k
  | 0, _ => by simp [valL]
  | k + 1, h => by
    have ih := valL_bd bs hb k (by omega)
    have hx := hb bs[k] (List.getElem_mem _)
    rw [valL_take bs k h, List.getD_eq_getElem?_getD, List.getElem?_eq_getElem h, Int.pow_succ]
    simp only [Option.getD_some]
    omega
theorem or_nat (m c : Nat) (hm : m < 281474976710656) (hc : c < 256) : (BitVec.ofInt 64 ((m : Int) * 256) ||| BitVec.ofInt 64 (c : Int)).toNat = m * 256 + c := by
  rw [BitVec.toNat_or, show (m : Int) * 256 = ((m * 256 : Nat) : Int) from by omega, BitVec.ofInt_natCast, BitVec.ofInt_natCast, BitVec.toNat_ofNat, BitVec.toNat_ofNat, Nat.mod_eq_of_lt (by omega), Nat.mod_eq_of_lt (by omega)]
  have := Nat.shiftLeft_add_eq_or_of_lt (b := c) (i := 8) hc m
  rw [Nat.shiftLeft_eq, show (2 : Nat) ^ 8 = 256 from rfl] at this
  omega
theorem or_int (m c : Int) (h0 : 0 ≤ m) (hm : m < 281474976710656) (c0 : 0 ≤ c) (hc : c ≤ 255) : (BitVec.ofInt 64 (m * 256) ||| BitVec.ofInt 64 c).toNat = (m * 256 + c).toNat := by
  obtain ⟨a, rfl⟩ := Int.eq_ofNat_of_zero_le h0
  obtain ⟨b, rfl⟩ := Int.eq_ofNat_of_zero_le c0
  have := or_nat a b (by omega) (by omega)
  rw [this]
  omega
theorem bits_or (m c : Int) (h0 : 0 ≤ m) (hm : m < 1099511627776) (c0 : 0 ≤ c) (hc : c ≤ 255) : bits BinOp.or IntKind.i64 (m * 256) c = m * 256 + c := by
  have h := or_int m c h0 (by omega) c0 hc
  simp only [bits]
  rw [show IntKind.i64.bits = 64 from rfl, h, IntWalk.i64_in _ (by omega)]
  omega
theorem pow_le (k : Nat) (hk : k ≤ 5) : (256 : Int) ^ k ≤ 1099511627776 := by
  rcases (show k = 0 ∨ k = 1 ∨ k = 2 ∨ k = 3 ∨ k = 4 ∨ k = 5 by omega) with rfl | rfl | rfl | rfl | rfl | rfl <;> decide
set_option maxHeartbeats 2000000 in
theorem number_go (bs rest : List Int) (g off c : Nat) (w : World) (hlen : bs.length ≤ 6) (hb : ∀ x ∈ bs, 0 ≤ x ∧ x ≤ 255) (h0 : 0 < bs.length → bs.getD 0 0 ≠ 0) (hr : Rbs w g off ((bs.length : Int) :: (bs ++ rest))) (hc : 1 + bs.length + rest.length ≤ c) (hcm : c ≤ maxLen) :
    Calls Try.prog 42 #[.slice (some ⟨g, off, none⟩) (1 + bs.length + rest.length) c] w fun e w' => e = .returned (.tuple #[.int .i64 (valL bs), .int .i64 (1 + bs.length), .int .i64 0]) ∧ w = w' := by
  have x0 : w.cell? ⟨g, off, none⟩ = some (.int .u8 bs.length) := hr 0 (by simp)
  have hx : ∀ k, k < bs.length → w.cell? ⟨g, off + 1 + k, none⟩ = some (.int .u8 (bs.getD k 0)) := fun k hk => by
    have := hr (k + 1) (by simp; omega)
    rw [show off + 1 + k = off + (k + 1) by omega, this]
    simp [List.getD_eq_getElem?_getD, List.getElem?_append_left hk]
  have hbd := valL_bd bs hb
  have hgb : ∀ k, k < bs.length → 0 ≤ bs.getD k 0 ∧ bs.getD k 0 ≤ 255 := fun k hk => by
    rw [List.getD_eq_getElem?_getD, List.getElem?_eq_getElem hk]
    exact hb _ (List.getElem_mem _)
  obtain ⟨L, hL⟩ : ∃ L, L = bs.length := ⟨_, rfl⟩
  obtain ⟨R, hR⟩ : ∃ R, R = rest.length := ⟨_, rfl⟩
  rw [← hL] at hlen h0 hc x0 hx hbd hgb ⊢
  rw [← hR] at hc ⊢
  have HL := Lib.hid hL
  have HX := Lib.hid hx
  have HB := Lib.hid hbd
  have HG := Lib.hid hgb
  have H0 := Lib.hid h0
  clear hr hb hL hR hx hbd hgb h0
  have hl7 : decide ((7 : Int) < 1 + L) = false := decide_eq_false (by omega)
  go_enter Try.func42, Try.ntmps42
  go_wp2
  apply wp_scope_straight
  by_cases hz : L = 0
  · subst hz
    have hv : valL bs = 0 := by
      rw [List.eq_nil_of_length_eq_zero HL.out.symm]
      rfl
    go_wp2
    all_goals
      go_loop [2, 40] (fun s t => s = .int .i64 0 ∧ t = .int .i64 0) (fun _ _ => 0)
      case atStart => exact ⟨rfl, rfl⟩
      case round =>
        obtain ⟨rfl, rfl⟩ := hrel
        go_wp2
        exact bodyPost_ret (v := .tuple #[.int .i64 0, .int .i64 1, .int .i64 0]) (by simp [results, Try.results42, go_sem, *]) rfl ⟨by rw [hv]; simp, rfl⟩
  · have x1 : w.cell? ⟨g, off + 1, none⟩ = some (.int .u8 (bs.getD 0 0)) := HX.out 0 (by omega)
    have n1 := H0.out (by omega)
    obtain ⟨b0, hb0⟩ : ∃ b0, b0 = bs.getD 0 0 := ⟨_, rfl⟩
    rw [← hb0] at x1 n1
    have n2 : (b0 == 0) = false := beq_eq_false_iff_ne.2 n1
    clear hb0
    go_wp2
    all_goals
      go_loop [2, 40] (fun s t => ∃ k : Nat, k ≤ L ∧ t = .int .i64 k ∧ s = .int .i64 (valL (bs.take k))) (fun _ t => L - (intOf t).toNat)
      case atStart => exact ⟨0, by omega, rfl, rfl⟩
      case round =>
        obtain ⟨k, hk, rfl, rfl⟩ := hrel
        obtain ⟨m0, m1⟩ := HB.out k hk
        by_cases q : k < L
        · have xk := HX.out k q
          obtain ⟨v0, v1⟩ := HG.out k q
          have hvt := valL_take bs k (by rw [← HL.out]; exact q)
          obtain ⟨b, hb⟩ : ∃ b, b = bs.getD k 0 := ⟨_, rfl⟩
          obtain ⟨m, hm⟩ : ∃ m, m = valL (bs.take k) := ⟨_, rfl⟩
          rw [← hb] at xk v0 v1 hvt
          rw [← hm] at m0 m1 hvt ⊢
          have hp := pow_le k (by omega)
          have o1 := bits_or m b m0 (by omega) v0 v1
          rw [← o1] at hvt
          have O1 := Lib.hid o1
          clear o1
          have HVT := Lib.hid hvt
          clear hb hm hvt
          go_wp2
          refine ⟨⟨k + 1, by omega, by go_num, by rw [HVT.out]⟩, by simp [intOf]; omega⟩
        · obtain rfl : k = L := by omega
          have hv : valL (bs.take k) = valL bs := by rw [HL.out, List.take_length]
          rw [hv]
          go_wp2
          exact bodyPost_ret (v := .tuple #[.int .i64 (valL bs), .int .i64 (1 + k), .int .i64 0]) (by simp [results, Try.results42, go_sem, *]) rfl ⟨rfl, rfl⟩
end Go.Proofs.Ytidfmpiliinmeaa
