/- DiskSure: each act as a contract. -/
import Derived.Test.YthodclhemleeaaaO
set_option linter.unusedVariables false
set_option linter.unusedSimpArgs false
namespace Go.Proofs.Ythodclhemleeaaa
open Go.RowKit
open Go.Proofs.YthodclhemleeaaaW.PrintWords (nums ReadsInt Drawn0 Kd pw_cell_below print_append_row)
open PDiskNil (S33 k33 rd_T33)
attribute [local go_sem] max2_int min2_int max_two min_two
def SurePost (w : World) (g : Nat) (d : Dsk) (i : Nat) (k : Int) (bs : List Int) (e : Ending) (w' : World) : Prop :=
  ∃ (f : Int) (d' : Dsk) (lv sv : Value), e = .returned (.int .i64 f) ∧ DiskAt w' g d' lv sv ∧ Sr d' (i + 1) ∧ Act2 d d' k f bs ∧ Only g w w'
theorem sure_of {w : World} {g : Nat} {d : Dsk} {i : Nat} {k : Int} {bs : List Int} {r : Dsk × Int} {f : FuncId} {args : Array Value} (h1 : Sr r.1 (i + 1)) (h2 : Act2 d r.1 k r.2 bs)
    (h : Calls Try.prog f args w (OpPost w g r.1 r.2)) : Calls Try.prog f args w (SurePost w g d i k bs) :=
  h.mono fun e w' ⟨he, ⟨lv, sv, hD⟩, hO⟩ => ⟨_, _, lv, sv, he, hD, h1, h2, hO⟩
theorem s_app (g : Nat) (d : Dsk) (lv sv bv : Value) (bs : List Int) (w : World) {i : Nat} (h : DiskAt w g d lv sv) (hbs : Slc0 w bv bs) (hS : Sr d i) (hi : i < 150) (hbl : bs.length ≤ 3000) : Calls Try.prog 12 #[dp g, bv] w (SurePost w g d i 0 bs) :=
  sure_of (hS.op hi _ _ _ (opn_app bs hbl)) (act_app hS bs _ _) (append_any g d lv sv bv bs w h hbs hS.ok (by omega))
theorem s_sync (g : Nat) (d : Dsk) (lv sv : Value) (bs : List Int) (w : World) {i : Nat} (h : DiskAt w g d lv sv) (hS : Sr d i) (hi : i < 150) : Calls Try.prog 13 #[dp g] w (SurePost w g d i 1 bs) :=
  sure_of (hS.op hi _ _ _ opn_sync) (act_sync hS _ bs) (sync_any g d lv sv w h hS.ok)
theorem s_swap (g : Nat) (d : Dsk) (lv sv bv : Value) (bs : List Int) (w : World) {i : Nat} (h : DiskAt w g d lv sv) (hbs : Slc0 w bv bs) (hS : Sr d i) (hi : i < 150) (hbl : bs.length ≤ 3000) : Calls Try.prog 14 #[dp g, bv] w (SurePost w g d i 2 bs) :=
  sure_of (hS.op hi _ _ _ (opn_swap bs hbl)) (act_swap hS _ bs) (swap_any g d lv sv bv bs w h hbs hS.ok (by omega))
theorem s_clear (g : Nat) (d : Dsk) (lv sv : Value) (bs : List Int) (w : World) {i : Nat} (h : DiskAt w g d lv sv) (hS : Sr d i) (hi : i < 150) : Calls Try.prog 15 #[dp g] w (SurePost w g d i 3 bs) :=
  sure_of (hS.op hi _ _ _ opn_clear) (act_clear hS _ bs) (clear_any g d lv sv w h hS.ok)
/-- append([]byte{}, b...): the program's own copy, as an arm's fact. -/
theorem Slc0.reads {W : World} {A : Option Addr} {c : Nat} {xs : List Int} (h : Slc0 W (.slice A xs.length c) xs) : ReadsInt W .u8 A xs.length xs := by
  obtain ⟨A', c', e, _, _, _, hr⟩ := h
  injection e with e1 e2 e3
  subst e1
  exact hr
/-- An act of the row, in a later world; its bytes in the first. -/
theorem Acts.at2 {w W : World} {A : Option Addr} {xs : List S33} (h : Acts w A xs) (hb : Below w.heap.size w W) {i : Nat} {x : S33} (hi : xs[i]? = some x) :
    ∃ ad A2 c2, A = some ad ∧ W.cell? (ad.add (i * 3)) = some (.int .i64 x.f0) ∧ W.cell? ⟨(ad.add (i * 3)).block, (ad.add (i * 3)).off + 1, none⟩ = some (.int .i64 x.f1) ∧ W.cell? ⟨(ad.add (i * 3)).block, (ad.add (i * 3)).off + 2, none⟩ = some (.slice A2 x.f2.length c2) ∧ Slc0 W (.slice A2 x.f2.length c2) x.f2 ∧ Slc0 w (.slice A2 x.f2.length c2) x.f2 ∧ (-9223372036854775808 ≤ x.f0 ∧ x.f0 ≤ 9223372036854775807) ∧ (-9223372036854775808 ≤ x.f1 ∧ x.f1 ≤ 9223372036854775807) := by
  obtain ⟨ad, A2, c2, rfl, e0, e1, e2, hs, h0, h1⟩ := h.at_ hi
  exact ⟨ad, A2, c2, rfl, pw_cell_below hb e0, pw_cell_below hb e1, pw_cell_below hb e2, hs.below hb, hs, h0, h1⟩
theorem str_take (xs : List Int) (k : Nat) : (Go.strOfNums xs).extract 0 k = Go.strOfNums (xs.take k) := by
  apply ByteArray.ext
  simp [Go.strOfNums, ByteArray.extract, ByteArray.copySlice]
end Go.Proofs.Ythodclhemleeaaa
