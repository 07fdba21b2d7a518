/- Small words for walks: worlds that grew, max and min. No condition. -/
import Derived.Test.YtndfoohdoadkfaaProg
import Derived.WalkKit
import Derived.WalkSpells
import Derived.WalkLawsBesides
import Derived.KernelRfl
import Derived.Deep.RegionHeld3
import Derived.Deep.QuietTactic
import Derived.BigQuiet
import Derived.Lib.Hide
import Derived.Deep.DeepCutAuto
import Derived.Deep.CutBlock
import Derived.Deep.LoopGhost
set_option linter.unusedVariables false
set_option linter.unusedSimpArgs false
namespace Go.Proofs.Ytndfoohdoadkfaa
open Go.RowKit

theorem fr {w W w1 : World} (k : Nat) (hk : w.heap.size + k ≤ W.heap.size) (hb : Below W.heap.size W w1) : (∀ b o, b < w.heap.size + k → w1.cell? ⟨b, o, none⟩ = W.cell? ⟨b, o, none⟩) ∧ (∀ b o, b < w.heap.size + k → w1.frozen? ⟨b, o, none⟩ = W.frozen? ⟨b, o, none⟩) ∧ w.heap.size + k ≤ w1.heap.size :=
  ⟨fun b o h => hb.cell (p := ⟨b, o, none⟩) (Nat.lt_of_lt_of_le h hk), fun b o h => hb.frozen (p := ⟨b, o, none⟩) (Nat.lt_of_lt_of_le h hk), Nat.le_trans hk hb.size⟩
theorem undrew {W w1 : World} (h : Below W.drew.heap.size W.drew w1) : Below W.heap.size W w1 := ⟨h.os, h.tape, h.output, h.size, h.block⟩
/-- What a call leaves as it was: rules for the walk, each under 'b < W.heap.size'. -/
theorem ch {W w1 : World} (hb : Below W.heap.size W w1) : (∀ b o, b < W.heap.size → w1.cell? ⟨b, o, none⟩ = W.cell? ⟨b, o, none⟩) ∧ (∀ b o, b < W.heap.size → w1.frozen? ⟨b, o, none⟩ = W.frozen? ⟨b, o, none⟩) :=
  ⟨fun b o h => hb.cell (p := ⟨b, o, none⟩) h, fun b o h => hb.frozen (p := ⟨b, o, none⟩) h⟩
theorem ch' {W w1 : World} (hb : Below W.heap.size W w1) : (∀ b o, b < W.heap.size → w1.cell? ⟨b, o, none⟩ = W.cell? ⟨b, o, none⟩) ∧ (∀ b o, b < W.heap.size → w1.frozen? ⟨b, o, none⟩ = W.frozen? ⟨b, o, none⟩) := ch hb
theorem bel {w W w1 : World} (h : Below w.heap.size w W) (k : Below W.heap.size W w1) : Below w.heap.size w w1 := h.trans (k.mono h.size)
theorem below_alloc {w W : World} (h : Below w.heap.size w W) (o : Obj) : Below w.heap.size w (W.alloc o) := h.alloc h.size o
theorem below_drew1 {base : Nat} {w W : World} (h : Below base w W) : Below base w W.drew := h.drew
theorem below_set {w W : World} {g j : Nat} {v : Value} (h : Below w.heap.size w W) (hg : w.heap.size ≤ g) : Below w.heap.size w (W.setCell ⟨g, j, none⟩ v) := h.setCell hg _

/-- Below block number w.heap.size + k the world W reads as ws; of what was there in w0 nothing has turned. -/
def Keep (w0 w ws : World) (k : Nat) (W : World) : Prop := (∀ b o, b < w.heap.size + k → W.cell? ⟨b, o, none⟩ = ws.cell? ⟨b, o, none⟩) ∧ w.heap.size + k ≤ W.heap.size ∧ Below w0.heap.size w0 W
theorem Keep.start {w0 w ws : World} {k : Nat} (hb : Below w0.heap.size w0 ws) (hz : w.heap.size + k ≤ ws.heap.size) : Keep w0 w ws k ws := ⟨fun _ _ _ => rfl, hz, hb⟩
theorem Keep.next {w0 w ws W w1 : World} {k : Nat} (H : Keep w0 w ws k W) (hb : Below W.heap.size W w1) : Keep w0 w ws k w1 :=
  ⟨fun b o h => ((fr k H.2.1 hb).1 b o h).trans (H.1 b o h), Nat.le_trans H.2.1 hb.size, bel H.2.2 hb⟩
theorem Keep.alloc {w0 w ws W : World} {k : Nat} {o : Obj} (H : Keep w0 w ws k W) : Keep w0 w ws k (W.alloc o) := H.next ((Below.refl _ _).alloc (Nat.le_refl _) o)
theorem Keep.drew {w0 w ws W : World} {k : Nat} (H : Keep w0 w ws k W) : Keep w0 w ws k W.drew := H.next ((Below.refl _ _).drew)
theorem Keep.set {w0 w ws W : World} {k g j : Nat} {v : Value} (H : Keep w0 w ws k W) (h0 : w0.heap.size ≤ g) (hg : w.heap.size + k ≤ g) : Keep w0 w ws k (W.setCell ⟨g, j, none⟩ v) := by
  have hb : Below (w.heap.size + k) W (W.setCell ⟨g, j, none⟩ v) := (Below.refl _ _).setCell hg v
  exact ⟨fun b o' h => (hb.cell (p := ⟨b, o', none⟩) h).trans (H.1 b o' h), Nat.le_trans H.2.1 hb.size, H.2.2.setCell h0 v⟩
theorem Keep.size {w0 w ws W : World} {k : Nat} (H : Keep w0 w ws k W) : w.heap.size + k ≤ W.heap.size := H.2.1
theorem Keep.below {w0 w ws W : World} {k : Nat} (H : Keep w0 w ws k W) : Below w0.heap.size w0 W := H.2.2

theorem ret_bool {a b : Bool} (h : a = true ↔ b = true) : Ending.returned (.bool a) = .returned (.bool b) := by rw [Bool.eq_iff_iff.2 h]
theorem ret_int {k : IntKind} {a b : Int} (h : a = b) : Ending.returned (.int k a) = .returned (.int k b) := by rw [h]

theorem max2_int (k k' : IntKind) (x y : Int) : Builtin.max2 (.int k x) (.int k' y) = pure (.int k (max x y)) := by
  simp only [Builtin.max2, gt_iff_lt]
  congr 2
  omega
theorem min2_int (k k' : IntKind) (x y : Int) : Builtin.min2 (.int k x) (.int k' y) = pure (.int k (min x y)) := by
  simp only [Builtin.min2]
  congr 2
  omega
theorem max_two (ats : Array TypeId) (ty : TypeId) (a b : Value) : Builtin.max_ ats ty #[a, b] = (Builtin.max2 a b >>= fun s => pure s) := by simp only [Builtin.max_, List.foldlM_cons, List.foldlM_nil]
theorem min_two (ats : Array TypeId) (ty : TypeId) (a b : Value) : Builtin.min_ ats ty #[a, b] = (Builtin.min2 a b >>= fun s => pure s) := by simp only [Builtin.min_, List.foldlM_cons, List.foldlM_nil]
end Go.Proofs.Ytndfoohdoadkfaa
