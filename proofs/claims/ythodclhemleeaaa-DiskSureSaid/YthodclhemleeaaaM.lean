/- What DiskFuse keeps. -/
import Derived.Test.YthodclhemleeaaaJ
set_option linter.unusedVariables false
set_option linter.unusedSimpArgs false
namespace Go.Proofs.Ythodclhemleeaaa
open Go.RowKit
open Go.Proofs.YthodclhemleeaaaW.PrintWords (nums ReadsInt Drawn0 Kd pw_cell_below)
open PDiskNil (S33 k33 rd_T33)
/-- An act of a row that is read. -/
theorem Acts.at_ {W : World} {A : Option Addr} {xs : List S33} (h : Acts W A xs) {i : Nat} {x : S33} (hi : xs[i]? = some x) :
    ∃ ad A2 c2, A = some ad ∧ W.cell? (ad.add (i * 3)) = some (.int .i64 x.f0) ∧ W.cell? ⟨(ad.add (i * 3)).block, (ad.add (i * 3)).off + 1, none⟩ = some (.int .i64 x.f1) ∧ W.cell? ⟨(ad.add (i * 3)).block, (ad.add (i * 3)).off + 2, none⟩ = some (.slice A2 x.f2.length c2) ∧ Slc0 W (.slice A2 x.f2.length c2) x.f2 ∧ (-9223372036854775808 ≤ x.f0 ∧ x.f0 ≤ 9223372036854775807) ∧ (-9223372036854775808 ≤ x.f1 ∧ x.f1 ≤ 9223372036854775807) := by
  have hl := (List.getElem?_eq_some_iff.1 hi).1
  obtain ⟨ad, rfl, hc⟩ := h.2 (by omega)
  obtain ⟨cs, ⟨A2, c2, rfl, hs, h0, h1⟩, hcell⟩ := hc i x hi
  refine ⟨ad, A2, c2, rfl, hcell 0 _ rfl, ?_, ?_, hs, h0, h1⟩
  · rw [← Go.Proofs.YthodclhemleeaaaW.PrintWords.add_field _ _ 1 (by omega)]
    exact hcell 1 _ rfl
  · rw [← Go.Proofs.YthodclhemleeaaaW.PrintWords.add_field _ _ 2 (by omega)]
    exact hcell 2 _ rfl
/-- Where the power stands behind done operations, the fuse having been n. -/
structure Fz (d : Dsk) (n : Int) (done i : Nat) : Prop where
  ok : Ok d
  room : d.room = 1048576
  ll : d.log.length ≤ 3000 * i
  ls : d.snap.length ≤ 3000
  st : (d.off = false ∧ ((n = -1 ∧ d.fuse = -1) ∨ (0 ≤ n ∧ (done : Int) ≤ n ∧ d.fuse = n - done))) ∨ (d.off = true ∧ 0 ≤ n ∧ n < done)
/-- What an operation does to what is kept. -/
structure Opn (F : Dsk → Dsk) (more : Nat) : Prop where
  off : ∀ d, (F d).off = d.off
  room : ∀ d, (F d).room = d.room
  fuse : ∀ d, (F d).fuse = d.fuse
  ll : ∀ d, (F d).log.length ≤ d.log.length + more
  ls : ∀ d, d.snap.length ≤ 3000 → (F d).snap.length ≤ 3000
  sure0 : ∀ d, 0 ≤ d.sure → 0 ≤ (F d).sure
  sure1 : ∀ d, d.sure ≤ d.log.length → (F d).sure ≤ (F d).log.length
theorem burn_opn (d : Dsk) : (burn d).log = d.log ∧ (burn d).snap = d.snap ∧ (burn d).room = d.room ∧ (burn d).sure = d.sure := ⟨rfl, rfl, rfl, rfl⟩
def offB (n : Int) (done : Nat) : Bool := decide (0 ≤ n) && decide (n ≤ done)
theorem Fz.step {d : Dsk} {n : Int} {done i : Nat} (h : Fz d n done i) (F : Dsk → Dsk) (half : Bool) (used : Int) (hF : Opn F 3000) (hu : used ≤ 1048576) (hi : i < 150) (hn : n ≤ 10) :
    Fz (opR F half d used).1 n (done + 1) (i + 1) ∧ (opR F half d used).2 = (if offB n done then 9 else 0) ∧ (opR F half d used).1.off = offB n done := by
  obtain ⟨ok, room, ll, ls, st⟩ := h
  obtain ⟨k1, k2, k3, k4, k5, k6, k7⟩ := ok
  have key : ∀ d', d' = burn d ∨ d' = F (burn d) → (d'.room = d.room ∧ d'.log.length ≤ 3000 * (i + 1) ∧ d'.snap.length ≤ 3000 ∧ 0 ≤ d'.sure ∧ d'.sure ≤ d'.log.length ∧ d'.fuse = max d.fuse 0 - 1 ∧ d'.off = (d.fuse == 0)) := by
    rintro d' (rfl | rfl)
    · exact ⟨rfl, by show d.log.length ≤ _; omega, ls, k1, k2, rfl, rfl⟩
    · refine ⟨hF.room _, ?_, hF.ls _ ls, hF.sure0 _ k1, hF.sure1 _ k2, hF.fuse _, hF.off _⟩
      have := hF.ll (burn d)
      have e : (burn d).log.length = d.log.length := rfl
      omega
  have mk : ∀ d', d' = burn d ∨ d' = F (burn d) → d.off = false → Fz d' n (done + 1) (i + 1) ∧ d'.off = offB n done ∧ (d.fuse = 0 ↔ offB n done = true) := by
    intro d' hd ho
    obtain ⟨r1, r2, r3, r4, r5, r6, r7⟩ := key d' hd
    rcases st with ⟨_, st⟩ | ⟨st, _⟩
    · have hz : d.fuse = 0 ↔ offB n done = true := by
        unfold offB
        rw [Bool.and_eq_true, decide_eq_true_eq, decide_eq_true_eq]
        omega
      have hoff : d'.off = offB n done := by
        rw [r7]
        by_cases q : d.fuse = 0
        · rw [hz.1 q, q]; rfl
        · rw [beq_eq_false_iff_ne.2 q]
          cases q2 : offB n done with
          | false => rfl
          | true => exact absurd (hz.2 q2) q
      refine ⟨⟨⟨r4, r5, by omega, by omega, by omega, by omega, by omega⟩, by omega, r2, r3, ?_⟩, hoff, hz⟩
      by_cases q : d.fuse = 0
      · right
        refine ⟨by rw [hoff]; exact hz.1 q, ?_⟩
        omega
      · left
        refine ⟨by rw [r7]; exact beq_eq_false_iff_ne.2 q, ?_⟩
        rcases st with ⟨s1, s2⟩ | ⟨s1, s2, s3⟩
        · left
          exact ⟨s1, by rw [r6]; omega⟩
        · right
          exact ⟨s1, by omega, by rw [r6]; omega⟩
    · rw [ho] at st
      cases st
  unfold opR
  cases ho : d.off with
  | true =>
    rcases st with ⟨st, _⟩ | ⟨_, s1, s2⟩
    · rw [ho] at st
      cases st
    · have hb : offB n done = true := by
        unfold offB
        rw [Bool.and_eq_true, decide_eq_true_eq, decide_eq_true_eq]
        omega
      rw [if_pos rfl, hb]
      exact ⟨⟨⟨k1, k2, k3, k4, k5, k6, k7⟩, room, by show d.log.length ≤ 3000 * (i + 1); omega, ls, .inr ⟨ho, s1, by omega⟩⟩, rfl, ho⟩
  | false =>
    rw [if_neg (by simp), if_neg (by omega)]
    by_cases q : d.fuse = 0
    · rw [if_pos q]
      have hd : (bif half then F (burn d) else burn d) = burn d ∨ (bif half then F (burn d) else burn d) = F (burn d) := by cases half <;> simp
      obtain ⟨m1, m2, m3⟩ := mk _ hd ho
      exact ⟨m1, by rw [m3.1 q]; rfl, m2⟩
    · rw [if_neg q]
      obtain ⟨m1, m2, m3⟩ := mk _ (.inr rfl) ho
      refine ⟨m1, ?_, m2⟩
      cases q2 : offB n done with
      | false => rfl
      | true => exact absurd (m3.2 q2) q
theorem opn_app (bs : List Int) (h : bs.length ≤ 3000) : Opn (appD · bs) 3000 := ⟨fun _ => rfl, fun _ => rfl, fun _ => rfl, fun d => by simp [appD]; omega, fun d h => h, fun _ h => h, fun d h => by simp [appD]; omega⟩
theorem opn_sync : Opn syncD 3000 := ⟨fun _ => rfl, fun _ => rfl, fun _ => rfl, fun d => by simp [syncD], fun d h => h, fun d _ => by simp [syncD], fun d h => by simp [syncD]⟩
theorem opn_clear : Opn clearD 3000 := ⟨fun _ => rfl, fun _ => rfl, fun _ => rfl, fun d => by simp [clearD], fun d h => h, fun _ _ => by simp [clearD], fun d _ => by simp [clearD]⟩
theorem opn_swap (bs : List Int) (h : bs.length ≤ 3000) : Opn (swapD · bs) 3000 := ⟨fun _ => rfl, fun _ => rfl, fun _ => rfl, fun d => by simp [swapD], fun d _ => h, fun _ h => h, fun d h => h⟩
/-- The law's n. -/
def fuseN (n : Int) : Int := (n.tmod 12 + 12).tmod 12 - 1
theorem Fz.start (n : Int) (h0 : -1 ≤ n) (h1 : n ≤ 10) : Fz (cutD (newD 1048576) n) n 0 0 := by
  have hm : max n (-1) = n := by omega
  refine ⟨⟨by simp [cutD, newD], by simp [cutD, newD], by simp [cutD, newD], by simp [cutD, newD], by simp [cutD, newD], by simp [cutD, newD]; omega, by simp [cutD, newD]; omega⟩, rfl, by simp [cutD, newD], by simp [cutD, newD], .inl ⟨rfl, ?_⟩⟩
  show (n = -1 ∧ max n (-1) = -1) ∨ (0 ≤ n ∧ ((0 : Nat) : Int) ≤ n ∧ max n (-1) = n - ((0 : Nat) : Int))
  omega
end Go.Proofs.Ythodclhemleeaaa
