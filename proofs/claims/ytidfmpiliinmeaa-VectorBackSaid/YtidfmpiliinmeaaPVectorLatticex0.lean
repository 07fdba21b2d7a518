-- PRINTED BY print.sh 35421559b90ae4d0a3588c463048766b98c2df88dd9212a6774a882060cdf62d: not written by this session
import Derived.Test.YtidfmpiliinmeaaProg
import Derived.Below
import Derived.Deep.Draws
import Derived.Deep.AppendLies
import Derived.Maps.AppendAt
import Derived.OwnWalk
import Derived.Laws.BytesArg
import Derived.Laws.MakeOwn
import Derived.Laws.OwnMore
import Derived.Deep.OwnRows
import Derived.Tactics
import Derived.Lib.ConvBytes
import Derived.Laws.Slices
import Derived.WalkKit
import Derived.KernelRfl
import Derived.RowKit3
import Derived.Deep.LoopGhost
import Derived.Deep.QuietTactic
import Derived.BigQuiet
import Derived.WideLaws
import Derived.Deep.DeepCutAuto
import Derived.Deep.CutBlock
import Derived.Deep.RegionHeld3
import Derived.Laws.Rows
import Derived.Lib.AppendStr
import Derived.ArgAppend
import Derived.Laws.IdiomCopy
import Derived.OrdersHeld
import Derived.Laws.BitsLemmas
import Derived.RowKit
import Derived.Test.YtidfmpiliinmeaaWWords
import Derived.Test.YtidfmpiliinmeaaWLast
import Derived.Test.YtidfmpiliinmeaaWTab
import Derived.Test.YtidfmpiliinmeaaWFour
import Derived.Test.YtidfmpiliinmeaaWQPut
import Derived.Test.YtidfmpiliinmeaaWApart
import Derived.Test.YtidfmpiliinmeaaWArr
import Derived.Test.YtidfmpiliinmeaaWZeros
import Derived.Test.YtidfmpiliinmeaaWFoot
import Derived.Test.YtidfmpiliinmeaaWKept
import Derived.Test.YtidfmpiliinmeaaWShare
import Derived.Test.YtidfmpiliinmeaaWN
import Derived.Test.YtidfmpiliinmeaaWFootNe
import Derived.Test.YtidfmpiliinmeaaWAt
import Derived.Test.YtidfmpiliinmeaaWEqStruct
import Derived.Test.YtidfmpiliinmeaaWRepsOne
import Derived.Test.YtidfmpiliinmeaaWInv
import Derived.Test.YtidfmpiliinmeaaWInvWords
import Derived.Test.YtidfmpiliinmeaaWGuard
import Derived.Test.YtidfmpiliinmeaaWNEv
import Derived.Test.YtidfmpiliinmeaaWMore
namespace Go.Proofs.Ytidfmpiliinmeaa.PVectorLattice
open Go.RowKit Go.Proofs.YtidfmpiliinmeaaW.PrintWords Go.Proofs.YtidfmpiliinmeaaW.PrintLast Go.Proofs.YtidfmpiliinmeaaW.PrintMore
attribute [local go_sem] max2_int min2_int max_two min_two max_three min_three max_four min_four   -- for this text's walks alone
set_option linter.unusedVariables false
set_option linter.unusedSimpArgs false



def errW : Option Int → Value
  | none => .nilIface
  | some c => .iface 0 (.int .i64 c)
theorem errW_none : errW none = .nilIface := rfl
theorem errW_some (c : Int) : errW (some c) = .iface 0 (.int .i64 c) := rfl

theorem info5 : (Try.prog.info? 5).map (fun i => (i.zero, i.size, i.bytes)) = some (some (.int .u8 0), 1, 1) := by kernel_rfl
-- the values' own types

end Go.Proofs.Ytidfmpiliinmeaa.PVectorLattice
