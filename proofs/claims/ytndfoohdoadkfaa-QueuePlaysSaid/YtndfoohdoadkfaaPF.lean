/- Arguments opened: rows of items, rows of acts. No condition. -/
import Derived.Test.YtndfoohdoadkfaaPE
set_option linter.unusedVariables false
set_option linter.unusedSimpArgs false
namespace Go.Proofs.Ytndfoohdoadkfaa
open Go.RowKit Go.ChangeShapes Go.WideShapes Go.ChangeAt Go.Deep
section
variable {H : Type} {enc : TypeId × Value → H} {W : World} {base : Nat} {spare : Nat → Bool} {held : Bool}
theorem ListAt.rowI {W : World} {A : Option Addr} {c : Nat} {xs : List It} (h : ListAt W 3 FI A c xs) : RowI W (.slice A xs.length c) xs ∧ Nz (.slice A xs.length c) := by
  obtain ⟨h1, h2, h3, h4⟩ := h
  refine ⟨⟨A, c, rfl, h1, fun h0 => ?_⟩, ?_⟩
  · obtain ⟨g, o, e, hr⟩ := h4 h0
    refine ⟨g, o, e, fun k s hk => ?_⟩
    obtain ⟨cs, rfl, hc⟩ := hr k s hk
    exact hc
  · cases A with
    | none =>
      obtain ⟨rfl, rfl⟩ := h3 rfl
      exact .inl rfl
    | some a => exact .inr ⟨a, _, _, rfl⟩
theorem open_its {v : Value} {d : DataW H} {p : List MemPlace} {r : Reach} {b0 : Nat} (hv : Value.okWide Try.prog W r b0 22 v) (h : DataW.Trod enc Try.prog W base spare held 22 v d p) : ∃ xs : List It, RowI W v xs ∧ Nz v := by
  obtain ⟨A, c, xs, rfl, hL⟩ := open_listv Try.underlying22 (k := 3) (by kernel_rfl) (by omega) FI (fun fuel cs x hx => open_it hx) hv h
  exact ⟨xs, hL.rowI⟩
def FA (a : Act5) (cs : List Value) : Prop := cs = (AS a).toList
theorem open_act5 {fuel : Nat} {cs : List Value} {x : DataW H × List MemPlace} (h : DataW.trod enc Try.prog W base spare held fuel 38 cs = some x) : ∃ a : Act5, cs = (AS a).toList := by
  obtain ⟨y0, y1, n, _, hl, h0, h1⟩ := trod_struct2 Try.underlying38 h
  have hc : cs.length = 4 := hl.trans (by kernel_rfl)
  match cs, hc with
  | [a, b, c, e], _ =>
    obtain ⟨i, e0, _, w0⟩ := DataW.trod_int Try.underlying3 (show DataW.trod enc Try.prog W base spare held n 3 [a] = some y0 from h0)
    obtain ⟨s, e1⟩ := open_it (show DataW.trod enc Try.prog W base spare held n 36 [b, c, e] = some y1 from h1)
    obtain rfl : a = .int .i64 i := by simpa using e0
    injection e1 with e1 e2
    injection e2 with e2 e3
    injection e3 with e3 _
    subst e1 e2 e3
    exact ⟨⟨i, s⟩, rfl⟩
theorem open_qacts {v : Value} {d : DataW H} {p : List MemPlace} {r : Reach} {b0 : Nat} (hv : Value.okWide Try.prog W r b0 23 v) (h : DataW.Trod enc Try.prog W base spare held 23 v d p) : ∃ xs : List Act5, RowA W v xs := by
  obtain ⟨A, c, xs, rfl, hL⟩ := open_listv Try.underlying23 (k := 4) (by kernel_rfl) (by omega) FA (fun fuel cs x hx => open_act5 hx) hv h
  obtain ⟨h1, h2, h3, h4⟩ := hL
  refine ⟨xs, A, c, rfl, h1, fun h0 => ?_⟩
  obtain ⟨g, o, e, hr⟩ := h4 h0
  refine ⟨g, o, e, fun k s hk => ?_⟩
  obtain ⟨cs, rfl, hc⟩ := hr k s hk
  exact hc
theorem plays_row (va : Value) (xs : List It) (vb : Value) (la : List Act5) (vc : Value) (lb : List Act5) (w : World) (ha : RowI w va xs ∧ Nz va) (hb : RowA w vb la) (hc : RowA w vc lb) :
    Calls Try.prog 3 #[va, vb, vc] w fun e w' => e = .returned (.bool true) ∧ Below w.heap.size w w' := plays_any va xs vb la lb vc w ha hb hc
end
end Go.Proofs.Ytndfoohdoadkfaa
