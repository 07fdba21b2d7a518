/- A vector that came in, opened. -/
import Derived.Test.YtidfmpiliinmeaaV
import Derived.ProofKit
import Derived.OpenShut
import Derived.SizedLaws
set_option linter.unusedVariables false
set_option linter.unusedSimpArgs false
namespace Go.Proofs.Ytidfmpiliinmeaa
open Go.RowKit Go.WideShapes
def numAt (cs : Array Value) (i : Nat) : Int := match cs[i]? with
  | some (.int _ n) => n
  | _ => 0
theorem CS_get (a : Nat → Int) (i : Nat) (hi : i < 16) : (CS a)[i]? = some (.int .i64 (a i)) := by
  rcases (show i = 0 ∨ i = 1 ∨ i = 2 ∨ i = 3 ∨ i = 4 ∨ i = 5 ∨ i = 6 ∨ i = 7 ∨ i = 8 ∨ i = 9 ∨ i = 10 ∨ i = 11 ∨ i = 12 ∨ i = 13 ∨ i = 14 ∨ i = 15 by omega) with rfl | rfl | rfl | rfl | rfl | rfl | rfl | rfl | rfl | rfl | rfl | rfl | rfl | rfl | rfl | rfl <;> rfl
theorem open_vec {H : Type} {enc : TypeId × Value → H} {P : Program} {w : World} {base : Nat} {spare : Nat → Bool} {held : Bool} {r : Reach} {b0 : Nat} {t e : TypeId} {v : Value} {d : DataW H} {p : List MemPlace}
    (hs : P.underlying t = some (.array 16 e)) (he : P.underlying e = some (.int .i64)) (hce : P.cellsOf e = 1) (hC : P.cellsOf t = 16) (hv : Value.okWide P w r b0 t v) (h : DataW.Trod enc P w base spare held t v d p) :
    ∃ a : Nat → Int, v = .agg (CS a) := by
  simp only [Value.okWide, hs] at hv
  obtain ⟨cs, rfl, hsz, _⟩ := hv
  obtain ⟨fuel, hf⟩ := h
  obtain ⟨xs, m, _, hx, _, hlen, hg⟩ := DataW.trod_array hs hf
  refine ⟨numAt cs, ?_⟩
  congr 1
  apply Array.ext_getElem?
  intro i
  rcases Nat.lt_or_ge i 16 with hi | hi
  · rw [CS_get _ i hi]
    have hl : i < cs.toList.length := by
      rw [Array.length_toList]
      omega
    have hq := hg i hi
    rw [hce, Nat.mul_one, show (Value.agg cs).cells = cs from rfl, List.drop_eq_getElem_cons hl, List.take_succ_cons, List.take_zero] at hq
    obtain ⟨n, e1, _, _⟩ := DataW.trod_int he (hq.trans (List.getElem?_eq_getElem (show i < xs.length by omega)))
    have hc : cs[i]? = some (.int .i64 n) := by
      rw [Array.getElem?_eq_getElem (by omega)]
      simp only [List.cons.injEq, and_true, Array.getElem_toList] at e1
      rw [e1]
    rw [hc]
    simp [numAt, hc]
  · rw [Array.getElem?_eq_none (show cs.size ≤ i by omega), Array.getElem?_eq_none (show (CS (numAt cs)).size ≤ i from hi)]
end Go.Proofs.Ytidfmpiliinmeaa
