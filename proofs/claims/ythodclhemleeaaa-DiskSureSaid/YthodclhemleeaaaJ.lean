/- Whether acts are many; the law DiskNil's walk. -/
import Derived.Test.YthodclhemleeaaaI
set_option linter.unusedVariables false
set_option linter.unusedSimpArgs false
namespace Go.Proofs.Ythodclhemleeaaa
open Go.RowKit
open Go.Proofs.YthodclhemleeaaaW.PrintWords (nums ReadsInt Drawn0 Kd pw_cell_below)
open PDiskNil (S33 k33 rd_T33 dioramalaw17_long.f dioramalaw17_long.l0 dioramalaw17_long.j1)
attribute [local go_sem] max2_int min2_int max_two min_two
theorem wrap_next {i : Int} (h0 : 0 ≤ i) (h1 : i < 400) : wrap64 (i + 1) = i + 1 := by unfold wrap64; omega
def Short (xs : List S33) : Prop := xs.length ≤ 150 ∧ ∀ x ∈ xs, x.f2.length ≤ 3000
theorem long_from (xs : List S33) : ∀ (m : Nat) (i : Int), 0 ≤ i → 400 - i ≤ m → ∃ b, dioramalaw17_long.l0 (2 * m + 2) xs i = some b ∧ (b = false → xs.length ≤ 150 ∧ ∀ j : Int, i ≤ j → j < xs.length → (rd_T33 xs j).f2.length ≤ 3000)
  | m, i, h0, hm => by
    by_cases hl : i < (xs.length : Int)
    · by_cases h4 : i < 400
      · obtain ⟨m, rfl⟩ : ∃ m', m = m' + 1 := ⟨m - 1, by omega⟩
        by_cases h3 : ((rd_T33 xs i).f2.length : Int) > 3000
        · refine ⟨true, ?_, fun h => by cases h⟩
          rw [show 2 * (m + 1) + 2 = 2 * m + 2 + 1 + 1 from by omega]
          unfold dioramalaw17_long.l0
          rw [if_pos hl, decide_eq_true h4]
          unfold dioramalaw17_long.j1
          rw [if_pos rfl, if_pos h0, if_pos hl, if_pos h3]
        · obtain ⟨b, hb, hf⟩ := long_from xs m (i + 1) (by omega) (by omega)
          refine ⟨b, ?_, fun e => ⟨(hf e).1, fun j hj hjl => ?_⟩⟩
          · rw [show 2 * (m + 1) + 2 = 2 * m + 2 + 1 + 1 from by omega]
            unfold dioramalaw17_long.l0
            rw [if_pos hl, decide_eq_true h4]
            unfold dioramalaw17_long.j1
            rw [if_pos rfl, if_pos h0, if_pos hl, if_neg h3, wrap_next h0 h4, hb]
          · by_cases e' : j = i
            · subst e'
              omega
            · exact (hf e).2 j (by omega) hjl
      · refine ⟨decide ((xs.length : Int) > 150), ?_, fun e => ?_⟩
        · unfold dioramalaw17_long.l0
          rw [if_pos hl, decide_eq_false h4]
          unfold dioramalaw17_long.j1
          rw [if_neg (by decide)]
        · have := of_decide_eq_false e
          omega
    · refine ⟨decide ((xs.length : Int) > 150), ?_, fun e => ?_⟩
      · unfold dioramalaw17_long.l0
        rw [if_neg hl]
        unfold dioramalaw17_long.j1
        rw [if_neg (by decide)]
      · have := of_decide_eq_false e
        exact ⟨by omega, fun j hj hjl => absurd hjl (by omega)⟩
theorem long_any (A : Option Addr) (c : Nat) (xs : List S33) (w : World) (h : Acts w A xs) (hc : xs.length ≤ c) : Calls Try.prog 7 #[.slice A xs.length c] w fun e w' => ∃ b, e = .returned (.bool b) ∧ Below w.heap.size w w' ∧ (b = false → Short xs) := by
  obtain ⟨b, hb, hf⟩ := long_from xs 400 0 (by omega) (by omega)
  refine (PDiskNil.dioramalaw17_long.calls _ A c xs b w h.kd hc hb).mono ?_
  rintro e w' ⟨rfl, n, rfl⟩
  refine ⟨b, rfl, below_drewN (Below.refl _ _) n, fun e => ⟨(hf e).1, fun x hx => ?_⟩⟩
  obtain ⟨j, hj⟩ := List.getElem?_of_mem hx
  have hjl := (List.getElem?_eq_some_iff.1 hj).1
  have := (hf e).2 j (by omega) (by omega)
  have hr : rd_T33 xs j = x := by
    show xs.getD (j : Int).toNat _ = x
    rw [Int.toNat_natCast, List.getD_eq_getElem?_getD, hj]
    rfl
  rwa [hr] at this
end Go.Proofs.Ythodclhemleeaaa
