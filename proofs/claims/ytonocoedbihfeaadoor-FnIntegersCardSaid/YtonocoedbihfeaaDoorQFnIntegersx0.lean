/- What the functions of FnIntegers compute, each with its proof: this session's own text. -/
import Derived.Test.YtonocoedbihfeaaDoorProg
import Derived.Below
import Derived.Deep.Draws
import Derived.Deep.AppendLies
import Derived.Maps.AppendAt
import Derived.OwnWalk
import Derived.Laws.BytesArg
import Derived.Laws.MakeOwn
import Derived.Laws.OwnMore
import Derived.Deep.OwnRows
import Derived.Tactics
import Derived.Lib.ConvBytes
import Derived.Laws.Slices
import Derived.WalkKit
import Derived.KernelRfl
import Derived.RowKit3
import Derived.Deep.LoopGhost
import Derived.Deep.QuietTactic
import Derived.BigQuiet
import Derived.WideLaws
import Derived.Deep.DeepCutAuto
import Derived.Deep.CutBlock
import Derived.Deep.RegionHeld3
import Derived.Laws.Rows
import Derived.Lib.AppendStr
import Derived.ArgAppend
import Derived.Laws.IdiomCopy
import Derived.OrdersHeld
import Derived.Laws.BitsLemmas
import Derived.RowKit
import Derived.Lib.SliceRun
import Derived.Test.YtonocoedbihfeaaDoorWWords
import Derived.Test.YtonocoedbihfeaaDoorWLast
import Derived.Test.YtonocoedbihfeaaDoorWTab
import Derived.Test.YtonocoedbihfeaaDoorWFour
import Derived.Test.YtonocoedbihfeaaDoorWQPut
import Derived.Test.YtonocoedbihfeaaDoorWApart
import Derived.Test.YtonocoedbihfeaaDoorWArr
import Derived.Test.YtonocoedbihfeaaDoorWZeros
import Derived.Test.YtonocoedbihfeaaDoorWFoot
import Derived.Test.YtonocoedbihfeaaDoorWKept
import Derived.Test.YtonocoedbihfeaaDoorWShare
import Derived.Test.YtonocoedbihfeaaDoorWN
import Derived.Test.YtonocoedbihfeaaDoorWFootNe
import Derived.Test.YtonocoedbihfeaaDoorWAt
import Derived.Test.YtonocoedbihfeaaDoorWEqStruct
import Derived.Test.YtonocoedbihfeaaDoorWRepsOne
import Derived.Test.YtonocoedbihfeaaDoorWInv
import Derived.Test.YtonocoedbihfeaaDoorWInvWords
import Derived.Test.YtonocoedbihfeaaDoorWGuard
import Derived.Test.YtonocoedbihfeaaDoorWNEv
import Derived.Test.YtonocoedbihfeaaDoorWMore
import Derived.Test.YtonocoedbihfeaaDoorSh
namespace Go.Proofs.YtonocoedbihfeaaDoor.PFnIntegers
open Go.RowKit Go.Proofs.YtonocoedbihfeaaDoorW.PrintWords Go.Proofs.YtonocoedbihfeaaDoorW.PrintLast Go.Proofs.YtonocoedbihfeaaDoorW.PrintMore Go.Proofs.YtonocoedbihfeaaDoor.Sh
attribute [local go_sem] max2_int min2_int max_two min_two max_three min_three max_four min_four   -- for this text's walks alone
set_option linter.unusedVariables false
set_option linter.unusedSimpArgs false



def errW : Option Int → Value
 | none => .nilIface
 | some c => .iface 0 (.int .i64 c)
theorem errW_none : errW none = .nilIface := rfl
theorem errW_some (c : Int) : errW (some c) = .iface 0 (.int .i64 c) := rfl

theorem info3 : (Tryd.prog.info? 3).map (fun i => (i.zero, i.size, i.bytes)) = some (some (.int .i64 0), 1, 8) := by kernel_rfl
theorem info5 : (Tryd.prog.info? 5).map (fun i => (i.zero, i.size, i.bytes)) = some (some (.int .u8 0), 1, 1) := by kernel_rfl
theorem info9 : (Tryd.prog.info? 9).map (fun i => (i.zero, i.size, i.bytes)) = some (some (.string ⟨#[]⟩), 1, 16) := by kernel_rfl
-- the values' own types

end Go.Proofs.YtonocoedbihfeaaDoor.PFnIntegers
