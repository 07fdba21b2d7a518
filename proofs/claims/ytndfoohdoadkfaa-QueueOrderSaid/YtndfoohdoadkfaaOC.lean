/- Arguments opened: rows of items. No condition. -/
import Derived.Test.YtndfoohdoadkfaaOB
set_option linter.unusedVariables false
set_option linter.unusedSimpArgs false
namespace Go.Proofs.Ytndfoohdoadkfaa
open Go.RowKit Go.ChangeShapes Go.WideShapes Go.ChangeAt Go.Deep
section
variable {H : Type} {enc : TypeId × Value → H} {W : World} {base : Nat} {spare : Nat → Bool} {held : Bool}
theorem ListAt.rowI {W : World} {A : Option Addr} {c : Nat} {xs : List It} (h : ListAt W 3 FI A c xs) : RowI W (.slice A xs.length c) xs := by
  obtain ⟨h1, h2, h3, h4⟩ := h
  refine ⟨A, c, rfl, h1, fun h0 => ?_⟩
  obtain ⟨g, o, e, hr⟩ := h4 h0
  refine ⟨g, o, e, fun k s hk => ?_⟩
  obtain ⟨cs, rfl, hc⟩ := hr k s hk
  exact hc
theorem open_its {v : Value} {d : DataW H} {p : List MemPlace} {r : Reach} {b0 : Nat} (hv : Value.okWide Try.prog W r b0 22 v) (h : DataW.Trod enc Try.prog W base spare held 22 v d p) : ∃ xs : List It, RowI W v xs := by
  obtain ⟨A, c, xs, rfl, hL⟩ := open_listv Try.underlying22 (k := 3) (by kernel_rfl) (by omega) FI (fun fuel cs x hx => open_it hx) hv h
  exact ⟨xs, hL.rowI⟩
end
end Go.Proofs.Ytndfoohdoadkfaa
