/- What the functions of FnKeyedHash compute, each with its proof: this session's own text. -/
import Derived.Test.YtelngjhdpbfifaaProg
import Derived.Below
import Derived.Deep.Draws
import Derived.Deep.AppendLies
import Derived.Maps.AppendAt
import Derived.OwnWalk
import Derived.Laws.BytesArg
import Derived.Laws.MakeOwn
import Derived.Laws.OwnMore
import Derived.Deep.OwnRows
import Derived.Tactics
import Derived.Lib.ConvBytes
import Derived.Laws.Slices
import Derived.WalkKit
import Derived.KernelRfl
import Derived.RowKit3
import Derived.Deep.LoopGhost
import Derived.Deep.QuietTactic
import Derived.BigQuiet
import Derived.WideLaws
import Derived.Deep.DeepCutAuto
import Derived.Deep.CutBlock
import Derived.Deep.RegionHeld3
import Derived.Laws.Rows
import Derived.Lib.AppendStr
import Derived.ArgAppend
import Derived.Laws.IdiomCopy
import Derived.OrdersHeld
import Derived.Laws.BitsLemmas
import Derived.RowKit
import Derived.Test.YtelngjhdpbfifaaSc
import Derived.Test.YtelngjhdpbfifaaWWords
import Derived.Test.YtelngjhdpbfifaaWLast
import Derived.Test.YtelngjhdpbfifaaWTab
import Derived.Test.YtelngjhdpbfifaaWFour
import Derived.Test.YtelngjhdpbfifaaWQPut
import Derived.Test.YtelngjhdpbfifaaWApart
import Derived.Test.YtelngjhdpbfifaaWArr
import Derived.Test.YtelngjhdpbfifaaWZeros
import Derived.Test.YtelngjhdpbfifaaWFoot
import Derived.Test.YtelngjhdpbfifaaWKept
import Derived.Test.YtelngjhdpbfifaaWShare
import Derived.Test.YtelngjhdpbfifaaWN
import Derived.Test.YtelngjhdpbfifaaWFootNe
import Derived.Test.YtelngjhdpbfifaaWAt
import Derived.Test.YtelngjhdpbfifaaWEqStruct
import Derived.Test.YtelngjhdpbfifaaWRepsOne
import Derived.Test.YtelngjhdpbfifaaWInv
import Derived.Test.YtelngjhdpbfifaaWInvWords
import Derived.Test.YtelngjhdpbfifaaWGuard
import Derived.Test.YtelngjhdpbfifaaWNEv
import Derived.Test.YtelngjhdpbfifaaWMore
import Derived.Test.YtelngjhdpbfifaaSh
namespace Go.Proofs.Ytelngjhdpbfifaa.PFnKeyedHash
open Go.RowKit Go.Proofs.YtelngjhdpbfifaaW.PrintWords Go.Proofs.YtelngjhdpbfifaaW.PrintLast Go.Proofs.YtelngjhdpbfifaaW.PrintMore Go.Proofs.Ytelngjhdpbfifaa.Sh
attribute [local go_sem] max2_int min2_int max_two min_two max_three min_three max_four min_four   -- for this text's walks alone
set_option linter.unusedVariables false
set_option linter.unusedSimpArgs false



def errW : Option Int → Value
 | none => .nilIface
 | some c => .iface 0 (.int .i64 c)
theorem errW_none : errW none = .nilIface := rfl
theorem errW_some (c : Int) : errW (some c) = .iface 0 (.int .i64 c) := rfl

theorem info3 : (Try.prog.info? 3).map (fun i => (i.zero, i.size, i.bytes)) = some (some (.int .i64 0), 1, 8) := by kernel_rfl
theorem info5 : (Try.prog.info? 5).map (fun i => (i.zero, i.size, i.bytes)) = some (some (.int .u8 0), 1, 1) := by kernel_rfl
theorem info9 : (Try.prog.info? 9).map (fun i => (i.zero, i.size, i.bytes)) = some (some (.string ⟨#[]⟩), 1, 16) := by kernel_rfl
-- the values' own types

end Go.Proofs.Ytelngjhdpbfifaa.PFnKeyedHash
