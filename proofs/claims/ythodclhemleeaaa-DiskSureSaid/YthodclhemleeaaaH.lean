/- Walk of knows. -/
import Derived.Test.YthodclhemleeaaaG
set_option linter.unusedVariables false
set_option linter.unusedSimpArgs false
namespace Go.Proofs.Ythodclhemleeaaa
open Go.RowKit
open Go.Proofs.YthodclhemleeaaaW.PrintWords (nums ReadsInt own_reads own_reads' nums_length print_append_row own_nil own_string)
attribute [local go_sem] max2_int min2_int max_two min_two
theorem num_any (n : Int) (w : World) : Calls Try.prog 10 #[.int .i64 n] w fun e w' => e = .returned (.int .i64 n) ∧ w = w' := by
  go_enter Try.func10, Try.ntmps10
  go_wp2
  go_ret
  exact ⟨rfl, rfl⟩
theorem Only.below {g : Nat} {W W' w : World} (h : Only g W W') {B : Nat} (hB : B ≤ g) (hb : Below B w W) : Below B w W' := h.bel B w hB hb
/-- A row of constants. -/
theorem lit_slc (w : World) (xs : List Int) (n : Nat) (hn : xs.length = n) (hm : n ≤ maxLen) : Slc (w.alloc (.cells (nums .u8 xs).toArray 5)) (.slice (some ⟨w.heap.size, 0, none⟩) n n) xs := by
  subst hn
  exact Slc.own (base := 0) (by simpa using World.ownsRow_lit (base := 0) (e := 5) (size := 1) w (nums .u8 xs).toArray xs.length (Nat.zero_le _) hm (by simp [nums]))
theorem DiskAt.alloc {W : World} {g : Nat} {d : Dsk} {lv sv : Value} (h : DiskAt W g d lv sv) (o : Obj) : DiskAt (W.alloc o) g d lv sv := h.below (below_alloc (Below.refl _ _) o)
def kD0 : Dsk := newD 50
def kD1 : Dsk := ⟨[97, 98], [], 0, 50, -1, false⟩
def kD2 : Dsk := ⟨[97, 98], [], 2, 50, -1, false⟩
def kD3 : Dsk := ⟨[97, 98], [], 2, 50, 0, false⟩
def kD4 : Dsk := ⟨[97, 98, 99, 100], [], 2, 50, -1, true⟩
def kD5 : Dsk := ⟨[97, 98, 99], [], 3, 50, -1, false⟩
theorem kOk0 : Ok kD0 := ⟨by decide, by decide, by decide, by decide, by decide, by decide, by decide⟩
theorem kOk1 : Ok kD1 := ⟨by decide, by decide, by decide, by decide, by decide, by decide, by decide⟩
theorem kOk2 : Ok kD2 := ⟨by decide, by decide, by decide, by decide, by decide, by decide, by decide⟩
theorem kOk3 : Ok kD3 := ⟨by decide, by decide, by decide, by decide, by decide, by decide, by decide⟩
theorem kOk4 : Ok kD4 := ⟨by decide, by decide, by decide, by decide, by decide, by decide, by decide⟩
theorem kR1 : opR (appD · [97, 98]) true kD0 ((kD0.log.length : Int) + kD0.snap.length + ([97, 98] : List Int).length) = (kD1, 0) := by rfl
theorem kR2 : opR syncD false kD1 0 = (kD2, 0) := by rfl
theorem kR4 : opR (appD · [99, 100]) true kD3 ((kD3.log.length : Int) + kD3.snap.length + ([99, 100] : List Int).length) = (kD4, 9) := by rfl
theorem kR5 : crashD kD4 1 = kD5 := by rfl
attribute [local irreducible] opR
theorem k_app1 (g : Nat) (lv sv bv : Value) (w : World) (h : DiskAt w g kD0 lv sv) (hbs : Slc0 w bv [97, 98]) : Calls Try.prog 12 #[dp g, bv] w (OpPost w g kD1 0) := by
  have := append_any g kD0 lv sv bv [97, 98] w h hbs kOk0 (by decide)
  rwa [kR1] at this
theorem k_sync (g : Nat) (lv sv : Value) (w : World) (h : DiskAt w g kD1 lv sv) : Calls Try.prog 13 #[dp g] w (OpPost w g kD2 0) := by
  have := sync_any g kD1 lv sv w h kOk1
  rwa [kR2] at this
theorem k_app2 (g : Nat) (lv sv bv : Value) (w : World) (h : DiskAt w g kD3 lv sv) (hbs : Slc0 w bv [99, 100]) : Calls Try.prog 12 #[dp g, bv] w (OpPost w g kD4 9) := by
  have := append_any g kD3 lv sv bv [99, 100] w h hbs kOk3 (by decide)
  rwa [kR4] at this
theorem k_crash (g : Nat) (lv sv : Value) (w : World) (h : DiskAt w g kD4 lv sv) : Calls Try.prog 20 #[dp g, .int .i64 1] w fun e w' => e = .returned (.tuple #[]) ∧ (∃ lv sv, DiskAt w' g kD5 lv sv) ∧ Only g w w' := by
  have := crash_any g kD4 lv sv 1 w h kOk4 (by decide) (by decide)
  rwa [kR5] at this
theorem k_str : Go.strOfNums kD5.log = ⟨#[97, 98, 99]⟩ := by rfl
/-- []byte("ab"): the row is marked as a string's. -/
def litW (W : World) (a b : Int) : World := (W.alloc (.cells #[.int .u8 a, .int .u8 b] 5)).freeze ⟨W.heap.size, 2, none⟩ 1
theorem litW_heap (W : World) (a b : Int) : (litW W a b).heap[W.heap.size]? = some (.cells #[.int .u8 a, .int .u8 b] 5 (2, 3)) := by
  have h := heap_alloc_new W (.cells #[.int .u8 a, .int .u8 b] 5)
  simp only [litW, World.freeze, Nat.one_ne_zero, if_false, Array.getElem?_modify, if_true, h, Option.map_some]
  rfl
theorem litW_below (W : World) (a b : Int) : Below W.heap.size W (litW W a b) := Lib.below_freeze (below_alloc (Below.refl _ _) _) (p := ⟨W.heap.size, 2, none⟩) (Nat.le_refl _) 1
theorem litW_slc (W : World) (a b : Int) : Slc (litW W a b) (.slice (some ⟨W.heap.size, 0, none⟩) 2 2) [a, b] := by
  refine ⟨_, _, rfl, Nat.le_refl _, by simp [maxLen], (fun h => by cases h), ⟨rfl, by simp, fun _ => ⟨_, rfl, fun j hj => ?_⟩⟩, fun ad ha => ?_⟩
  · have hj' : j < 2 := hj
    rcases (show j = 0 ∨ j = 1 by omega) with rfl | rfl
    · show (litW W a b).cell? ⟨W.heap.size, 0, none⟩ = some (.int .u8 a)
      unfold World.cell?
      rw [litW_heap]
      rfl
    · show (litW W a b).cell? ⟨W.heap.size, 0 + 1, none⟩ = some (.int .u8 b)
      unfold World.cell?
      rw [litW_heap]
      rfl
  · obtain rfl := Option.some.inj ha
    exact ⟨_, _, litW_heap W a b⟩
theorem conv31 (W : World) (a b : Int) : (convert 31 31 (.slice (some ⟨W.heap.size, 0, none⟩) 2 2)).run Try.prog (W.alloc (.cells #[.int .u8 a, .int .u8 b] 5)) = .ok (.slice (some ⟨W.heap.size, 0, none⟩) 2 2) (litW W a b) := by
  have h := heap_alloc_new W (.cells #[.int .u8 a, .int .u8 b] 5)
  have hs : (W.alloc (.cells #[.int .u8 a, .int .u8 b] 5)).shape? W.heap.size = some (5, 2) := by
    unfold World.shape?
    rw [h]
    rfl
  simp [convert, run_underlying Try.underlying31, run_underlying Try.underlying5, markStringish, hs, litW]
attribute [local go_sem] conv31
set_option maxHeartbeats 2000000 in
theorem knows_any (w : World) : Calls Try.prog 8 #[] w fun e w' => e = .returned (.bool true) ∧ Below w.heap.size w w' := by
  go_enter Try.func8, Try.ntmps8
  go_wp2_with (first
    | (go_at_call 9; refine (new_any 50 _ (by decide) (by decide)).mono ?_; rintro e w1 ⟨rfl, hD, hB⟩; have hD := Lib.hid hD; have hB := Lib.hid hB)
    | (go_at_call 12; refine (k_app1 _ _ _ _ _ (hD.out.below (litW_below _ _ _)) (litW_slc _ _ _).s0).mono ?_; rintro e w2 ⟨rfl, ⟨lv2, sv2, hD⟩, hO⟩; have hD := Lib.hid hD; have hB := Lib.hid (hO.below (Nat.le_refl _) (bel hB.out (litW_below _ _ _))); clear hO)
    | (go_at_call 13; refine (k_sync _ _ _ _ hD.out).mono ?_; rintro e w3 ⟨rfl, ⟨lv3, sv3, hD⟩, hO⟩; have hD := Lib.hid hD; have hB := Lib.hid (hO.below (Nat.le_refl _) hB.out); clear hO)
    | (go_at_call 11; refine (cut_any _ _ _ _ 0 _ hD.out (by decide)).mono ?_; rintro e w4 ⟨rfl, hD, hO⟩; have hD : Hid (DiskAt w4 w.heap.size kD3 lv3 sv3) := Lib.hid hD; have hB := Lib.hid (hO.below (Nat.le_refl _) hB.out); clear hO)
    | (go_at_call 12; refine (k_app2 _ _ _ _ _ (hD.out.below (litW_below _ _ _)) (litW_slc _ _ _).s0).mono ?_; rintro e w5 ⟨rfl, ⟨lv5, sv5, hD⟩, hO⟩; have hD := Lib.hid hD; have hB := Lib.hid (hO.below (Nat.le_refl _) (bel hB.out (litW_below _ _ _))); clear hO)
    | (go_at_call 16; refine (down_any _ kD4 _ _ _ hD.out (by decide)).mono ?_; rintro e w6 ⟨rfl, rfl⟩)
    | (go_at_call 20; refine (k_crash _ _ _ _ hD.out).mono ?_; rintro e w7 ⟨rfl, ⟨lv7, sv7, hD⟩, hO⟩; have hD := Lib.hid hD; have hB := Lib.hid (hO.below (Nat.le_refl _) hB.out); clear hO)
    | (go_at_call 10; refine (num_any _ _).mono ?_; rintro e w1 ⟨rfl, rfl⟩)
    | (go_at_call 17; refine (log_any _ kD5 _ _ _ hD.out (by decide) (by decide)).mono ?_; rintro e w8 ⟨v8, rfl, ho8, hb8⟩; have hcv := own_string (P := Try.prog) (src := 31) (dst := 9) Try.underlying31 Try.underlying5 Try.underlying9 ho8; rw [k_str] at hcv; have hD := Lib.hid (hD.out.below hb8); have hB := Lib.hid (bel hB.out hb8); clear ho8 hb8)
    | (go_at_call 18; refine (sure_any _ kD5 _ _ _ hD.out (by decide)).mono ?_; rintro e w9 ⟨rfl, rfl⟩)
    | (go_at_call 16; refine (down_any _ kD5 _ _ _ hD.out (by decide)).mono ?_; rintro e w10 ⟨rfl, rfl⟩))
  go_ret
  exact ⟨rfl, hB.out⟩
end Go.Proofs.Ythodclhemleeaaa
