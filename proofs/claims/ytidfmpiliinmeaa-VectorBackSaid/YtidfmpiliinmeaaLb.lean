/- Contracts whose results are named. -/
import Derived.Test.YtidfmpiliinmeaaKn
set_option linter.unusedVariables false
set_option linter.unusedSimpArgs false
namespace Go.Proofs.Ytidfmpiliinmeaa
open Go.RowKit
theorem coversV_is (x y : Nat → Int) (c : Bool) (h : eqV (mxF x y) x = c) (w : World) : Calls Try.prog 9 #[.agg (CS x), .agg (CS y)] w fun e w' => e = .returned (.bool c) ∧ Below w.heap.size w w' := by
  subst h
  exact coversV x y w
theorem cmpV_is (x y : Nat → Int) (n : Int) (h : cmpF x y = n) (w : World) : Calls Try.prog 10 #[.agg (CS x), .agg (CS y)] w fun e w' => e = .returned (.int .i64 n) ∧ Below w.heap.size w w' := by
  subst h
  exact compareV x y w
theorem totalV_is (x : Nat → Int) (n : Int) (h : totalI x = n) (w : World) : Calls Try.prog 13 #[.agg (CS x)] w fun e w' => e = .returned (.int .i64 n) ∧ Below w.heap.size w w' := by
  subst h
  exact totalV x w
theorem rightV_is (x : Nat → Int) (c : Bool) (h : rightB x = c) (w : World) : Calls Try.prog 12 #[.agg (CS x)] w fun e w' => e = .returned (.bool c) ∧ Below w.heap.size w w' := by
  subst h
  exact rightV x w
end Go.Proofs.Ytidfmpiliinmeaa
