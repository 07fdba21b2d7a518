/- Acts as arguments; whether they are many. -/
import Derived.Test.YthodclhemleeaaaH
import Derived.Test.YthodclhemleeaaaPDiskNilx1
import Derived.ProofKit
import Derived.OpenShut
import Derived.Deep.Strs
import Derived.Deep.Slices
import Derived.ChangeSlices
set_option linter.unusedVariables false
set_option linter.unusedSimpArgs false
namespace Go.Proofs.Ythodclhemleeaaa
open Go.RowKit Go.ChangeShapes Go.WideShapes Go.ChangeAt Go.Deep
open Go.Proofs.YthodclhemleeaaaW.PrintWords (nums ReadsInt Drawn0 Kd)
open PDiskNil (S33 k33)
/-- An act's three cells. -/
def Act1 (W : World) (x : S33) (cs : List Value) : Prop :=
  ∃ A c, cs = [.int .i64 x.f0, .int .i64 x.f1, .slice A x.f2.length c] ∧ Slc0 W (.slice A x.f2.length c) x.f2 ∧ (-9223372036854775808 ≤ x.f0 ∧ x.f0 ≤ 9223372036854775807) ∧ (-9223372036854775808 ≤ x.f1 ∧ x.f1 ≤ 9223372036854775807)
theorem Act1.below {W W' : World} {x : S33} {cs : List Value} (h : Act1 W x cs) (hb : Below W.heap.size W W') : Act1 W' x cs := by
  obtain ⟨A, c, rfl, hs, h0, h1⟩ := h
  exact ⟨A, c, rfl, hs.below hb, h0, h1⟩
def Acts (W : World) (A : Option Addr) (xs : List S33) : Prop :=
  xs.length ≤ maxLen ∧ (0 < xs.length → ∃ ad, A = some ad ∧ ∀ j p, xs[j]? = some p → ∃ c, Act1 W p c ∧ ∀ i u, c[i]? = some u → W.cell? (ad.add (j * 3 + i)) = some u)
theorem Acts.below {W W' : World} {A : Option Addr} {xs : List S33} (h : Acts W A xs) (hb : Below W.heap.size W W') : Acts W' A xs := by
  refine ⟨h.1, fun hn => ?_⟩
  obtain ⟨ad, rfl, hc⟩ := h.2 hn
  refine ⟨ad, rfl, fun j p hj => ?_⟩
  obtain ⟨c, h1, h2⟩ := hc j p hj
  exact ⟨c, h1.below hb, fun i u hi => Go.Proofs.YthodclhemleeaaaW.PrintWords.pw_cell_below hb (h2 i u hi)⟩
theorem reads_kd {W : World} {A : Option Addr} {xs : List Int} (h : ReadsInt W .u8 A xs.length xs) : (Kd.int .u8).C W A xs.length xs := by
  refine ⟨rfl, h.2.1, fun hn => ?_⟩
  obtain ⟨ad, rfl, hc⟩ := h.2.2 hn
  refine ⟨ad, rfl, fun j p hj => ⟨[.int .u8 p], rfl, rfl, fun i u hi => ?_⟩⟩
  have hjl : j < xs.length := (List.getElem?_eq_some_iff.1 hj).1
  rcases i with _ | i
  · obtain rfl := Option.some.inj (show some (Value.int .u8 p) = some u from hi)
    have := hc j hjl
    rw [List.getD_eq_getElem?_getD, hj] at this
    show W.cell? (ad.add (j * 1 + 0)) = _
    rw [Nat.mul_one, Nat.add_zero]
    exact this
  · simp at hi
theorem Act1.kd {W : World} {x : S33} {cs : List Value} (h : Act1 W x cs) : k33.K W x cs := by
  obtain ⟨A, c, rfl, ⟨A', c', e, h1, h2, h3, hr⟩, _, _⟩ := h
  injection e with e1 e2 e3
  subst e1 e3
  exact PDiskNil.k33_mk W x h1 (reads_kd hr)
theorem Acts.kd {W : World} {A : Option Addr} {xs : List S33} (h : Acts W A xs) : Kd.C k33 W A xs.length xs := by
  refine ⟨rfl, Nat.le_trans h.1 (by simp [maxLen]), fun hn => ?_⟩
  obtain ⟨ad, rfl, hc⟩ := h.2 hn
  refine ⟨ad, rfl, fun j p hj => ?_⟩
  obtain ⟨c, h1, h2⟩ := hc j p hj
  refine ⟨c, ?_, h1.kd, h2⟩
  obtain ⟨_, _, rfl, _⟩ := h1
  rfl
theorem bd64 {n : Int} (h : (Lit.int .i64 n).wf = true) : -9223372036854775808 ≤ n ∧ n ≤ 9223372036854775807 := by
  have h0 : IntKind.i64.min = -9223372036854775808 := rfl
  have h1 : IntKind.i64.max = 9223372036854775807 := rfl
  simp [Lit.wf] at h
  omega
variable {H : Type} {enc : TypeId × Value → H}
theorem open_bytes {W : World} {base fuel : Nat} {v : Value} {x : DataW H × List MemPlace} {spare : Nat → Bool} {held : Bool} (h : DataW.trod enc Try.prog W base spare held fuel 31 [v] = some x) : ∃ bs, Slc0 W v bs := by
  rcases open_ints Try.underlying31 Try.underlying5 (by kernel_rfl) h with ⟨hcs, _⟩ | ⟨ad, l, c, zs, hcs, _, hl, hm, hz, _, hcell, hwz⟩
  · injection hcs with e _
    subst e
    exact ⟨[], none, 0, rfl, Nat.le_refl _, by simp [maxLen], fun _ => rfl, rfl, by simp, fun h => absurd h (Nat.lt_irrefl 0)⟩
  · injection hcs with e _
    subst e
    have hzl : l ≤ zs.length := by
      rw [hz]
      split
      · exact hl
      · exact Nat.le_refl _
    have hlen : (zs.take l).length = l := by simp; omega
    refine ⟨zs.take l, some ad, c, by rw [hlen], by rw [hlen]; exact hl, hm, (fun h => by cases h), ?_⟩
    rw [hlen]
    refine ⟨hlen, by simp only [maxLen] at hm; omega, fun _ => ⟨ad, rfl, fun j hj => ?_⟩⟩
    rw [hcell j (by omega), List.getD_eq_getElem?_getD, List.getD_eq_getElem?_getD, List.getElem?_take_of_lt hj]
theorem open_act {W : World} {base fuel : Nat} {cs : List Value} {x : DataW H × List MemPlace} {spare : Nat → Bool} {held : Bool} (h : DataW.trod enc Try.prog W base spare held fuel 33 cs = some x) : ∃ p, Act1 W p cs := by
  obtain ⟨y0, y1, y2, n, _, hl, h0, h1, h2⟩ := trod_struct3 Try.underlying33 h
  have hc3 : cs.length = 3 := hl.trans (by kernel_rfl)
  match cs, hc3 with
  | [a, b, v], _ =>
    obtain ⟨i, e0, _, w0⟩ := DataW.trod_int Try.underlying3 (show DataW.trod enc Try.prog W base spare held n 3 [a] = some y0 from h0)
    obtain ⟨j, e1, _, w1⟩ := DataW.trod_int Try.underlying3 (show DataW.trod enc Try.prog W base spare held n 3 [b] = some y1 from h1)
    obtain ⟨bs, A, c, rfl, hs⟩ := open_bytes (show DataW.trod enc Try.prog W base spare held n 31 [v] = some y2 from h2)
    obtain rfl : a = .int .i64 i := by simpa using e0
    obtain rfl : b = .int .i64 j := by simpa using e1
    exact ⟨⟨i, j, bs⟩, A, c, rfl, ⟨A, c, rfl, hs⟩, bd64 w0, bd64 w1⟩
theorem open_actv {W : World} {base : Nat} {v : Value} {d : DataW H} {p : List MemPlace} {spare : Nat → Bool} {held : Bool} {r : Reach} {b0 : Nat} (hv : Value.okWide Try.prog W r b0 33 v) (h : DataW.Trod enc Try.prog W base spare held 33 v d p) : ∃ (x : S33) (A : Option Addr) (c : Nat), v = .agg #[.int .i64 x.f0, .int .i64 x.f1, .slice A x.f2.length c] ∧ Slc0 W (.slice A x.f2.length c) x.f2 ∧ (-9223372036854775808 ≤ x.f0 ∧ x.f0 ≤ 9223372036854775807) ∧ (-9223372036854775808 ≤ x.f1 ∧ x.f1 ≤ 9223372036854775807) := by
  obtain ⟨cs, rfl, _⟩ := okWide_struct Try.underlying33 hv
  obtain ⟨fuel, hf⟩ := h
  obtain ⟨x, A, c, he, hs, h0, h1⟩ := open_act (show DataW.trod enc Try.prog W base spare held fuel 33 cs.toList = some (d, p) from hf)
  obtain ⟨l⟩ := cs
  obtain rfl : l = _ := he
  exact ⟨x, A, c, rfl, hs, h0, h1⟩
theorem choose_list {W : World} (ad : Addr) : ∀ n : Nat, (∀ i, i < n → ∃ p c, Act1 W p c ∧ ∀ k u, c[k]? = some u → W.cell? (ad.add (i * 3 + k)) = some u) → ∃ xs : List S33, xs.length = n ∧ ∀ j p, xs[j]? = some p → ∃ c, Act1 W p c ∧ ∀ i u, c[i]? = some u → W.cell? (ad.add (j * 3 + i)) = some u
  | 0, _ => ⟨[], rfl, fun j p h => by simp at h⟩
  | n + 1, h => by
    obtain ⟨xs, hl, hx⟩ := choose_list ad n (fun i hi => h i (by omega))
    obtain ⟨p, c, h1, h2⟩ := h n (by omega)
    refine ⟨xs ++ [p], by simp [hl], fun j q hj => ?_⟩
    rcases Nat.lt_or_ge j xs.length with hjl | hjl
    · rw [List.getElem?_append_left hjl] at hj
      exact hx j q hj
    · have hjn : j = n := by
        have := (List.getElem?_eq_some_iff.1 hj).1
        simp at this
        omega
      subst hjn
      rw [List.getElem?_append_right hjl, hl, Nat.sub_self] at hj
      obtain rfl := Option.some.inj (show some p = some q from hj)
      exact ⟨c, h1, h2⟩
theorem open_acts {W : World} {base : Nat} {v : Value} {d : DataW H} {p : List MemPlace} {spare : Nat → Bool} {held : Bool} {r : Reach} {b0 : Nat} (hv : Value.okWide Try.prog W r b0 22 v) (h : DataW.Trod enc Try.prog W base spare held 22 v d p) : ∃ A c xs, v = .slice A xs.length c ∧ xs.length ≤ c ∧ c ≤ maxLen ∧ Acts W A xs := by
  obtain ⟨A, len, cap, rfl⟩ := okWide_slice Try.underlying22 hv
  obtain ⟨fuel, hf⟩ := h
  rcases open_slice Try.underlying22 hf with ⟨hcs, _⟩ | ⟨ad, l, c, m, n, D, Pl, hcs, _, hl, hm, hmm, _, hx⟩
  · simp [Value.cells] at hcs
    obtain ⟨rfl, rfl, rfl⟩ := hcs
    exact ⟨none, 0, [], rfl, Nat.le_refl _, by simp [maxLen], by simp [maxLen], fun h => absurd h (Nat.lt_irrefl 0)⟩
  · simp [Value.cells] at hcs
    obtain ⟨rfl, rfl, rfl⟩ := hcs
    have hlm : len ≤ m := by
      rw [hmm]
      split
      · exact hl
      · exact Nat.le_refl _
    obtain ⟨xs, hxl, hxs⟩ := choose_list (W := W) ad len (fun i hi => by
      obtain ⟨cs', h1, h2⟩ := hx i (by omega)
      have h33 : Try.prog.cellsOf 33 = 3 := by kernel_rfl
      rw [h33] at h1
      obtain ⟨q, hq⟩ := open_act h2
      obtain ⟨_, hlen, hcell⟩ := World.cells?_some h1
      refine ⟨q, cs', hq, fun k u hk => ?_⟩
      have hk3 : k < 3 := by have := (List.getElem?_eq_some_iff.1 hk).1; omega
      have := hcell k hk3
      rw [hk] at this
      rw [← this]
      rw [← Go.Deep.add_add])
    subst hxl
    exact ⟨some ad, cap, xs, rfl, hl, hm, Nat.le_trans hl hm, fun _ => ⟨ad, rfl, hxs⟩⟩
end Go.Proofs.Ythodclhemleeaaa
