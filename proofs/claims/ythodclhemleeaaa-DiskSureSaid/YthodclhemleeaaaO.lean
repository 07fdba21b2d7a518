/- What DiskSure asks of one act. -/
import Derived.Test.YthodclhemleeaaaM
set_option linter.unusedVariables false
set_option linter.unusedSimpArgs false
namespace Go.Proofs.Ythodclhemleeaaa
open Go.RowKit
open Go.Proofs.YthodclhemleeaaaW.PrintWords (nums ReadsInt Drawn0 Kd pw_cell_below)
open PDiskNil (S33 k33 rd_T33)
/-- The disk behind i acts. -/
structure Sr (d : Dsk) (i : Nat) : Prop where
  ok : Ok d
  room : d.room = 1048576
  ll : d.log.length ≤ 3000 * i
  ls : d.snap.length ≤ 3000
/-- One act of kind k, that gave f. -/
structure Act2 (d d' : Dsk) (k f : Int) (bs : List Int) : Prop where
  clear : k = 3 → f = 0 → d'.log = []
  stay : ¬ (k = 3 ∧ f = 0) → d.sure ≤ d'.log.length ∧ d'.log.take d.sure.toNat = d.log.take d.sure.toNat ∧ d.sure ≤ d'.sure
  crash : k = 5 → d'.log.length ≤ d.log.length ∧ d'.log = d.log.take d'.log.length ∧ d'.sure = d'.log.length
  snap : d'.snap = d.snap ∨ (k = 2 ∧ f = 0 ∧ d'.snap = bs)
theorem Sr.next {d : Dsk} {i : Nat} (h : Sr d i) : Sr d (i + 1) := ⟨h.ok, h.room, by have := h.ll; omega, h.ls⟩
theorem Act2.same (d d' : Dsk) (k f : Int) (bs : List Int) (hk : ¬ k = 5) (hf : k = 3 → ¬ f = 0) (hs : d.sure ≤ d.log.length) (hl : d'.log = d.log) (hs1 : d.sure ≤ d'.sure) (hn : d'.snap = d.snap) : Act2 d d' k f bs :=
  ⟨fun h1 h2 => absurd h2 (hf h1), fun _ => ⟨by rw [hl]; exact hs, by rw [hl], hs1⟩, fun h => absurd h hk, .inl hn⟩
theorem opR_cases (F : Dsk → Dsk) (half : Bool) (d : Dsk) (used : Int) : opR F half d used = (d, 9) ∨ opR F half d used = (d, 7) ∨ (half = false ∧ opR F half d used = (burn d, 9)) ∨ (half = true ∧ opR F half d used = (F (burn d), 9)) ∨ opR F half d used = (F (burn d), 0) := by
  unfold opR
  split
  · exact .inl rfl
  · split
    · exact .inr (.inl rfl)
    · split
      · cases half
        · exact .inr (.inr (.inl ⟨rfl, rfl⟩))
        · exact .inr (.inr (.inr (.inl ⟨rfl, rfl⟩)))
      · exact .inr (.inr (.inr (.inr rfl)))
theorem Sr.burn {d : Dsk} {i : Nat} (h : Sr d i) : Sr (burn d) i := by
  obtain ⟨⟨k1, k2, k3, k4, k5, k6, k7⟩, room, ll, ls⟩ := h
  exact ⟨⟨k1, k2, k3, k4, k5, by show -1 ≤ max d.fuse 0 - 1; omega, by show max d.fuse 0 - 1 ≤ 9223372036854775807; omega⟩, room, ll, ls⟩
theorem Sr.of {d : Dsk} {i : Nat} (h : Sr d i) (hi : i < 150) {F : Dsk → Dsk} (hF : Opn F 3000) : Sr (F d) (i + 1) := by
  obtain ⟨⟨k1, k2, k3, k4, k5, k6, k7⟩, room, ll, ls⟩ := h
  have a1 := hF.ll d
  have a2 := hF.ls d ls
  have a3 := hF.room d
  have a4 := hF.fuse d
  exact ⟨⟨hF.sure0 d k1, hF.sure1 d k2, by omega, by omega, by omega, by omega, by omega⟩, by omega, by omega, a2⟩
theorem Sr.op {d : Dsk} {i : Nat} (h : Sr d i) (hi : i < 150) (F : Dsk → Dsk) (half : Bool) (used : Int) (hF : Opn F 3000) : Sr (opR F half d used).1 (i + 1) := by
  rcases opR_cases F half d used with e | e | ⟨_, e⟩ | ⟨_, e⟩ | e <;> rw [e]
  · exact h.next
  · exact h.next
  · exact h.burn.next
  · exact h.burn.of hi hF
  · exact h.burn.of hi hF
theorem Sr.cut {d : Dsk} {i : Nat} (h : Sr d i) (n : Int) (hn : n ≤ 9223372036854775807) : Sr (cutD d n) (i + 1) := by
  obtain ⟨⟨k1, k2, k3, k4, k5, k6, k7⟩, room, ll, ls⟩ := h
  exact ⟨⟨k1, k2, k3, k4, k5, by show -1 ≤ max n (-1); omega, by show max n (-1) ≤ 9223372036854775807; omega⟩, room, by show d.log.length ≤ 3000 * (i + 1); omega, ls⟩
theorem crash_len (d : Dsk) (n : Int) (h : Ok d) : 0 ≤ crashN d n ∧ crashN d n ≤ d.log.length ∧ d.sure ≤ crashN d n ∧ ((crashD d n).log.length : Int) = crashN d n := by
  have k1 := h.sure0
  have k2 := h.sure1
  have a : 0 ≤ crashN d n ∧ crashN d n ≤ d.log.length ∧ d.sure ≤ crashN d n := by unfold crashN; omega
  refine ⟨a.1, a.2.1, a.2.2, ?_⟩
  show ((d.log.take (crashN d n).toNat).length : Int) = crashN d n
  rw [List.length_take]
  omega
theorem Sr.crash {d : Dsk} {i : Nat} (h : Sr d i) (n : Int) : Sr (crashD d n) (i + 1) := by
  obtain ⟨a1, a2, a3, a4⟩ := crash_len d n h.ok
  obtain ⟨⟨k1, k2, k3, k4, k5, k6, k7⟩, room, ll, ls⟩ := h
  exact ⟨⟨a1, by show crashN d n ≤ _; omega, k3, k4, by show ((crashD d n).log.length : Int) + d.snap.length ≤ d.room; omega, by show (-1 : Int) ≤ -1; omega, by show (-1 : Int) ≤ 9223372036854775807; omega⟩, room, by omega, ls⟩
theorem act_app {d : Dsk} {i : Nat} (h : Sr d i) (bs : List Int) (used : Int) (half : Bool) : Act2 d (opR (appD · bs) half d used).1 0 (opR (appD · bs) half d used).2 bs := by
  have k1 := h.ok.sure0
  have k2 := h.ok.sure1
  have ap : ∀ f, Act2 d (appD (burn d) bs) 0 f bs := fun f => ⟨fun h => absurd h (by decide), fun _ => ⟨by simp [appD, burn]; omega, by
    show (d.log ++ bs).take d.sure.toNat = d.log.take d.sure.toNat
    rw [List.take_append_of_le_length (by omega)], Int.le_refl _⟩, fun h => absurd h (by decide), .inl rfl⟩
  rcases opR_cases (appD · bs) half d used with e | e | ⟨_, e⟩ | ⟨_, e⟩ | e <;> rw [e]
  · exact .same _ _ _ _ _ (by decide) (fun _ => by simp) k2 rfl (Int.le_refl _) rfl
  · exact .same _ _ _ _ _ (by decide) (fun _ => by simp) k2 rfl (Int.le_refl _) rfl
  · exact .same _ _ _ _ _ (by decide) (fun _ => by simp) k2 rfl (Int.le_refl _) rfl
  · exact ap _
  · exact ap _
theorem act_sync {d : Dsk} {i : Nat} (h : Sr d i) (used : Int) (bs : List Int) : Act2 d (opR syncD false d used).1 1 (opR syncD false d used).2 bs := by
  have k2 := h.ok.sure1
  rcases opR_cases syncD false d used with e | e | ⟨_, e⟩ | ⟨e', e⟩ | e
  · rw [e]; exact .same _ _ _ _ _ (by decide) (fun _ => by simp) k2 rfl (Int.le_refl _) rfl
  · rw [e]; exact .same _ _ _ _ _ (by decide) (fun _ => by simp) k2 rfl (Int.le_refl _) rfl
  · rw [e]; exact .same _ _ _ _ _ (by decide) (fun _ => by simp) k2 rfl (Int.le_refl _) rfl
  · cases e'
  · rw [e]; exact .same _ _ _ _ _ (by decide) (fun h => absurd h (by decide)) k2 rfl k2 rfl
theorem act_swap {d : Dsk} {i : Nat} (h : Sr d i) (used : Int) (bs : List Int) : Act2 d (opR (swapD · bs) false d used).1 2 (opR (swapD · bs) false d used).2 bs := by
  have k2 := h.ok.sure1
  rcases opR_cases (swapD · bs) false d used with e | e | ⟨_, e⟩ | ⟨e', e⟩ | e
  · rw [e]; exact .same _ _ _ _ _ (by decide) (fun _ => by simp) k2 rfl (Int.le_refl _) rfl
  · rw [e]; exact .same _ _ _ _ _ (by decide) (fun _ => by simp) k2 rfl (Int.le_refl _) rfl
  · rw [e]; exact .same _ _ _ _ _ (by decide) (fun _ => by simp) k2 rfl (Int.le_refl _) rfl
  · cases e'
  · rw [e]; exact ⟨fun h => absurd h (by decide), fun _ => ⟨k2, rfl, Int.le_refl _⟩, fun h => absurd h (by decide), .inr ⟨rfl, rfl, rfl⟩⟩
theorem act_clear {d : Dsk} {i : Nat} (h : Sr d i) (used : Int) (bs : List Int) : Act2 d (opR clearD false d used).1 3 (opR clearD false d used).2 bs := by
  have k2 := h.ok.sure1
  rcases opR_cases clearD false d used with e | e | ⟨_, e⟩ | ⟨e', e⟩ | e
  · rw [e]; exact .same _ _ _ _ _ (by decide) (fun _ => by simp) k2 rfl (Int.le_refl _) rfl
  · rw [e]; exact .same _ _ _ _ _ (by decide) (fun _ => by simp) k2 rfl (Int.le_refl _) rfl
  · rw [e]; exact .same _ _ _ _ _ (by decide) (fun _ => by simp) k2 rfl (Int.le_refl _) rfl
  · cases e'
  · rw [e]; exact ⟨fun _ _ => rfl, fun h => absurd ⟨rfl, rfl⟩ h, fun h => absurd h (by decide), .inl rfl⟩
theorem act_cut {d : Dsk} {i : Nat} (h : Sr d i) (n k : Int) (hk5 : ¬ k = 5) (hk3 : ¬ k = 3) (bs : List Int) : Act2 d (cutD d n) k 0 bs := .same _ _ _ _ _ hk5 (fun h => absurd h hk3) h.ok.sure1 rfl (Int.le_refl _) rfl
theorem act_none {d : Dsk} {i : Nat} (h : Sr d i) (k : Int) (hk5 : ¬ k = 5) (hk3 : ¬ k = 3) (bs : List Int) : Act2 d d k 0 bs := .same _ _ _ _ _ hk5 (fun h => absurd h hk3) h.ok.sure1 rfl (Int.le_refl _) rfl
theorem act_crash {d : Dsk} {i : Nat} (h : Sr d i) (n : Int) (bs : List Int) : Act2 d (crashD d n) 5 0 bs := by
  obtain ⟨a1, a2, a3, a4⟩ := crash_len d n h.ok
  have k1 := h.ok.sure0
  have e : (crashD d n).log = d.log.take (crashN d n).toNat := rfl
  refine ⟨fun h => absurd h (by decide), fun _ => ⟨by omega, ?_, a3⟩, fun _ => ⟨by omega, ?_, a4.symm⟩, .inl rfl⟩
  · rw [e, List.take_take, Nat.min_eq_left (by omega)]
  · have : (crashD d n).log.length = (crashN d n).toNat := by omega
    rw [this, e]
end Go.Proofs.Ythodclhemleeaaa
