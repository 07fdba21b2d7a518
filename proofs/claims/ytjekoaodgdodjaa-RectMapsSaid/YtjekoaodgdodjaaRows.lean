/-
  No cell of these rows narrows 'for every input' (looked for: loops, veiled, ifaces, maps, wideKeys, modest, calm, conditions, laid).
  DERIVED. THE GIVEN ROWS OF THIS SEAT. 4 by the template 'for every input the law returns true; each argument reads behind the call as it read before'; 0 by the template 'total and deterministic' (their statements: YtjekoaodgdodjaaTotals.lean).
  GIVEN WITH THE SEED: the statements are not yours to turn. If you find one false, say at which input.
  Laid BY PROGRAM, IN A SANDBOX (cutbox-rows.mjs): the forced cells as the released guide's own fill.sh prints them over the translation e1a381433380794e… (all of the seat's roots in one cut). By AI agents, Wed Nov 11 2026. No macro, syntax, notation, axiom, sorry.
-/
import Derived.Test.YtjekoaodgdodjaaChecked
import GoSem.Claim
import GoSem.ClaimJoined
import GoSem.ClaimMapViews
import Derived.JoinedTies
import Derived.KernelRfl
namespace Go.Proofs.Ytjekoaodgdodjaa
/- THE CELL 'sum', in the pinned program and in every row, IS THE sha256 OF THE DUMP (.gsa) THAT YtjekoaodgdodjaaProg.lean LOADS. Nothing in Lean hashes anything: it is a label: what it is worth is what the hold of that sum in a sandbox is worth. -/
noncomputable def Try.pinned : Pinned := { name := "ytjekoaodgdodjaa", sum := "e1a381433380794e675501a7b595eec8a1b6d497e6652a374a3ea1533fbeeb56", checked := Try.checked }
namespace Rows
def none {H : Type} : Left H := { results := [], args := [] }

/-- 'dioramalaw20.RectLattice': WHATEVER THE INPUT: true; the input reads as it did. -/
def rectLatticeSpec : ChangeSpec := { name := "rectLattice", fn := fun _ => fun
  | [d1, d2, d3] => { results := [.lit (.bool true)], args := [d1, d2, d3] }
  | _ => none }
def rectLatticeRow : OpenClaim := { program := "ytjekoaodgdodjaa", sum := "e1a381433380794e675501a7b595eec8a1b6d497e6652a374a3ea1533fbeeb56", func := "diorama/dioramalaw20.RectLattice", spec := "rectLattice", apart := false }
def RectLatticeSaid : Prop := rectLatticeRow.holds Try.pinned (OpenSpec.ofChange rectLatticeSpec)

/-- ITS FALSE NEIGHBOUR: 'it returns false'. Refute it at one input. -/
def rectLatticeWrong : ChangeSpec := { name := "rectLattice", fn := fun _ => fun
  | [d1, d2, d3] => { results := [.lit (.bool false)], args := [d1, d2, d3] }
  | _ => none }
def RectLatticeWrongFalsely : Prop := rectLatticeRow.holds Try.pinned (OpenSpec.ofChange rectLatticeWrong)

/-- 'dioramalaw20.RectBoxes': WHATEVER THE INPUT: true; the input reads as it did. -/
def rectBoxesSpec : ChangeSpec := { name := "rectBoxes", fn := fun _ => fun
  | [d1, d2, d3, d4] => { results := [.lit (.bool true)], args := [d1, d2, d3, d4] }
  | _ => none }
def rectBoxesRow : OpenClaim := { program := "ytjekoaodgdodjaa", sum := "e1a381433380794e675501a7b595eec8a1b6d497e6652a374a3ea1533fbeeb56", func := "diorama/dioramalaw20.RectBoxes", spec := "rectBoxes", apart := false }
def RectBoxesSaid : Prop := rectBoxesRow.holds Try.pinned (OpenSpec.ofChange rectBoxesSpec)

/-- ITS FALSE NEIGHBOUR: 'it returns false'. Refute it at one input. -/
def rectBoxesWrong : ChangeSpec := { name := "rectBoxes", fn := fun _ => fun
  | [d1, d2, d3, d4] => { results := [.lit (.bool false)], args := [d1, d2, d3, d4] }
  | _ => none }
def RectBoxesWrongFalsely : Prop := rectBoxesRow.holds Try.pinned (OpenSpec.ofChange rectBoxesWrong)

/-- 'dioramalaw20.RectPlays': WHATEVER THE INPUT: true; the input reads as it did. -/
def rectPlaysSpec : ChangeSpec := { name := "rectPlays", fn := fun _ => fun
  | [d1, d2, d3, d4, d5] => { results := [.lit (.bool true)], args := [d1, d2, d3, d4, d5] }
  | _ => none }
def rectPlaysRow : OpenClaim := { program := "ytjekoaodgdodjaa", sum := "e1a381433380794e675501a7b595eec8a1b6d497e6652a374a3ea1533fbeeb56", func := "diorama/dioramalaw20.RectPlays", spec := "rectPlays", apart := false }
def RectPlaysSaid : Prop := rectPlaysRow.holds Try.pinned (OpenSpec.ofChange rectPlaysSpec)

/-- ITS FALSE NEIGHBOUR: 'it returns false'. Refute it at one input. -/
def rectPlaysWrong : ChangeSpec := { name := "rectPlays", fn := fun _ => fun
  | [d1, d2, d3, d4, d5] => { results := [.lit (.bool false)], args := [d1, d2, d3, d4, d5] }
  | _ => none }
def RectPlaysWrongFalsely : Prop := rectPlaysRow.holds Try.pinned (OpenSpec.ofChange rectPlaysWrong)

/-- 'dioramalaw20.RectMaps': WHATEVER THE INPUT: true; the input reads as it did. -/
def rectMapsSpec : ChangeSpec := { name := "rectMaps", fn := fun _ => fun
  | [d1, d2, d3, d4, d5] => { results := [.lit (.bool true)], args := [d1, d2, d3, d4, d5] }
  | _ => none }
def rectMapsRow : OpenClaim := { program := "ytjekoaodgdodjaa", sum := "e1a381433380794e675501a7b595eec8a1b6d497e6652a374a3ea1533fbeeb56", func := "diorama/dioramalaw20.RectMaps", spec := "rectMaps", unfollowed := true, recurses := true, apart := false }
def RectMapsSaid : Prop := rectMapsRow.holds Try.pinned (OpenSpec.ofChange rectMapsSpec)

/-- ITS FALSE NEIGHBOUR: 'it returns false'. Refute it at one input. -/
def rectMapsWrong : ChangeSpec := { name := "rectMaps", fn := fun _ => fun
  | [d1, d2, d3, d4, d5] => { results := [.lit (.bool false)], args := [d1, d2, d3, d4, d5] }
  | _ => none }
def RectMapsWrongFalsely : Prop := rectMapsRow.holds Try.pinned (OpenSpec.ofChange rectMapsWrong)

/- THE SECOND FORM. 'bulk': how many values and letters a reading holds, each counted each time it is reached (what is shared counts as often as it is met; a slice's spare places count too). A statement '..UptoSaid' is the law's where the arguments, and the package variables that the reading takes, are together of bulk at most 1048576: NARROWER than '..Said'. Prove '..Said' where nothing that the law and all that it calls make is longer than what came in: it says more and counts as full. Else prove '..UptoSaid'. A law counts once. -/
mutual
def uptoBulk {H : Type} : DataW H → Nat
  | .lit (.string bytes) => bytes.length + 1
  | .lit _ => 1
  | .nil => 1
  | .ptr d => uptoBulk d + 1
  | .slice elems spare => uptoBulkAll elems + uptoBulkAll spare + 1
  | .agg parts => uptoBulkAll parts + 1
  | .iface _ d => uptoBulk d + 1
  | .map entries => uptoBulkEntries entries + 1
  | .held _ => 1
def uptoBulkAll {H : Type} : List (DataW H) → Nat
  | [] => 0
  | d :: r => uptoBulk d + uptoBulkAll r
def uptoBulkEntries {H : Type} : List (Lit × DataW H) → Nat
  | [] => 0
  | x :: r => uptoBulkEntry x + uptoBulkEntries r
def uptoBulkEntry {H : Type} : Lit × DataW H → Nat
  | (.string bytes, d) => bytes.length + uptoBulk d + 1
  | (_, d) => uptoBulk d + 1
 end
def uptoSmall : (H : Type) → List (DataW H) → Bool := fun _ ds => decide (uptoBulkAll ds ≤ 1048576)
def OpenSpec.upto (s : _root_.Go.ChangeSpec) : _root_.Go.OpenSpec := { _root_.Go.OpenSpec.ofChange s with cond := some uptoSmall }

/-- 'dioramalaw20.RectLattice', WHERE WHAT IT READS IS OF BULK AT MOST 1048576: true; the input reads as it did. -/
def rectLatticeUptoRow : OpenClaim := { program := "ytjekoaodgdodjaa", sum := "e1a381433380794e675501a7b595eec8a1b6d497e6652a374a3ea1533fbeeb56", func := "diorama/dioramalaw20.RectLattice", spec := "rectLattice", apart := false, narrowed := true }
def RectLatticeUptoSaid : Prop := rectLatticeUptoRow.holds Try.pinned (OpenSpec.upto rectLatticeSpec)

/-- 'dioramalaw20.RectBoxes', WHERE WHAT IT READS IS OF BULK AT MOST 1048576: true; the input reads as it did. -/
def rectBoxesUptoRow : OpenClaim := { program := "ytjekoaodgdodjaa", sum := "e1a381433380794e675501a7b595eec8a1b6d497e6652a374a3ea1533fbeeb56", func := "diorama/dioramalaw20.RectBoxes", spec := "rectBoxes", apart := false, narrowed := true }
def RectBoxesUptoSaid : Prop := rectBoxesUptoRow.holds Try.pinned (OpenSpec.upto rectBoxesSpec)

/-- 'dioramalaw20.RectPlays', WHERE WHAT IT READS IS OF BULK AT MOST 1048576: true; the input reads as it did. -/
def rectPlaysUptoRow : OpenClaim := { program := "ytjekoaodgdodjaa", sum := "e1a381433380794e675501a7b595eec8a1b6d497e6652a374a3ea1533fbeeb56", func := "diorama/dioramalaw20.RectPlays", spec := "rectPlays", apart := false, narrowed := true }
def RectPlaysUptoSaid : Prop := rectPlaysUptoRow.holds Try.pinned (OpenSpec.upto rectPlaysSpec)

/-- 'dioramalaw20.RectMaps', WHERE WHAT IT READS IS OF BULK AT MOST 1048576: true; the input reads as it did. -/
def rectMapsUptoRow : OpenClaim := { program := "ytjekoaodgdodjaa", sum := "e1a381433380794e675501a7b595eec8a1b6d497e6652a374a3ea1533fbeeb56", func := "diorama/dioramalaw20.RectMaps", spec := "rectMaps", unfollowed := true, recurses := true, apart := false, narrowed := true }
def RectMapsUptoSaid : Prop := rectMapsUptoRow.holds Try.pinned (OpenSpec.upto rectMapsSpec)

end Rows
end Go.Proofs.Ytjekoaodgdodjaa
