/- Arguments opened: stamps and items. -/
import Derived.Test.YtndfoohdoadkfaaQE
import Derived.ProofKit
import Derived.OpenShut
import Derived.Deep.Strs
import Derived.Deep.Slices
import Derived.ChangeSlices
set_option linter.unusedVariables false
set_option linter.unusedSimpArgs false
namespace Go.Proofs.Ytndfoohdoadkfaa
open Go.RowKit Go.ChangeShapes Go.WideShapes Go.ChangeAt Go.Deep
theorem open_st {H : Type} {enc : TypeId × Value → H} {W : World} {base fuel : Nat} {cs : List Value} {x : DataW H × List MemPlace} {spare : Nat → Bool} {held : Bool} (h : DataW.trod enc Try.prog W base spare held fuel 34 cs = some x) : ∃ s : St, cs = (SS s).toList := by
  obtain ⟨y0, y1, n, _, hl, h0, h1⟩ := trod_struct2 Try.underlying34 h
  have hc : cs.length = 2 := hl.trans (by kernel_rfl)
  match cs, hc with
  | [a, b], _ =>
    obtain ⟨i, e0, _, w0⟩ := DataW.trod_int Try.underlying3 (show DataW.trod enc Try.prog W base spare held n 3 [a] = some y0 from h0)
    obtain ⟨j, e1, _, w1⟩ := DataW.trod_int Try.underlying3 (show DataW.trod enc Try.prog W base spare held n 3 [b] = some y1 from h1)
    obtain rfl : a = .int .i64 i := by simpa using e0
    obtain rfl : b = .int .i64 j := by simpa using e1
    exact ⟨⟨i, j⟩, rfl⟩
theorem open_it {H : Type} {enc : TypeId × Value → H} {W : World} {base fuel : Nat} {cs : List Value} {x : DataW H × List MemPlace} {spare : Nat → Bool} {held : Bool} (h : DataW.trod enc Try.prog W base spare held fuel 36 cs = some x) : ∃ s : It, cs = (IS s).toList := by
  obtain ⟨y0, y1, n, _, hl, h0, h1⟩ := trod_struct2 Try.underlying36 h
  have hc : cs.length = 3 := hl.trans (by kernel_rfl)
  match cs, hc with
  | [a, b, c], _ =>
    obtain ⟨s, e⟩ := open_st (show DataW.trod enc Try.prog W base spare held n 34 [a, b] = some y0 from h0)
    obtain ⟨j, e1, _, w1⟩ := DataW.trod_int Try.underlying3 (show DataW.trod enc Try.prog W base spare held n 3 [c] = some y1 from h1)
    obtain rfl : c = .int .i64 j := by simpa using e1
    injection e with e e2
    injection e2 with e2 _
    subst e e2
    exact ⟨⟨s.t, s.r, j⟩, rfl⟩
theorem open_itv {H : Type} {enc : TypeId × Value → H} {W : World} {base : Nat} {v : Value} {d : DataW H} {p : List MemPlace} {spare : Nat → Bool} {held : Bool} {r : Reach} {b0 : Nat} (hv : Value.okWide Try.prog W r b0 36 v) (h : DataW.Trod enc Try.prog W base spare held 36 v d p) : ∃ x : It, v = .agg (IS x) := by
  obtain ⟨cs, rfl, _⟩ := okWide_struct Try.underlying36 hv
  obtain ⟨fuel, hf⟩ := h
  obtain ⟨x, he⟩ := open_it (show DataW.trod enc Try.prog W base spare held fuel 36 cs.toList = some (d, p) from hf)
  obtain ⟨l⟩ := cs
  obtain rfl : l = _ := he
  exact ⟨x, rfl⟩
theorem open_stv {H : Type} {enc : TypeId × Value → H} {W : World} {base : Nat} {v : Value} {d : DataW H} {p : List MemPlace} {spare : Nat → Bool} {held : Bool} {r : Reach} {b0 : Nat} (hv : Value.okWide Try.prog W r b0 34 v) (h : DataW.Trod enc Try.prog W base spare held 34 v d p) : ∃ x : St, v = .agg (SS x) := by
  obtain ⟨cs, rfl, _⟩ := okWide_struct Try.underlying34 hv
  obtain ⟨fuel, hf⟩ := h
  obtain ⟨x, he⟩ := open_st (show DataW.trod enc Try.prog W base spare held fuel 34 cs.toList = some (d, p) from hf)
  obtain ⟨l⟩ := cs
  obtain rfl : l = _ := he
  exact ⟨x, rfl⟩
end Go.Proofs.Ytndfoohdoadkfaa
