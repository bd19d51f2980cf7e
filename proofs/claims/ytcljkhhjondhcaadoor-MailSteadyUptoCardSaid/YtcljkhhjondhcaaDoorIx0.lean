/- Functions of the program as plain functions, and that each call returns what they say, wherever they answer: written by a program of this session over the kit's printer; conditions: those in each statement. -/
import Derived.Test.YtcljkhhjondhcaaDoorProg
import Derived.Below
import Derived.Deep.Draws
import Derived.Deep.AppendLies
import Derived.Maps.AppendAt
import Derived.OwnWalk
import Derived.Laws.BytesArg
import Derived.Laws.MakeOwn
import Derived.Laws.OwnMore
import Derived.Deep.OwnRows
import Derived.Tactics
import Derived.Lib.ConvBytes
import Derived.Laws.Slices
import Derived.WalkKit
import Derived.KernelRfl
import Derived.RowKit3
import Derived.Deep.LoopGhost
import Derived.Deep.QuietTactic
import Derived.BigQuiet
import Derived.WideLaws
import Derived.Deep.DeepCutAuto
import Derived.Deep.CutBlock
import Derived.Deep.RegionHeld3
import Derived.Laws.Rows
import Derived.Lib.AppendStr
import Derived.ArgAppend
import Derived.Laws.IdiomCopy
import Derived.OrdersHeld
import Derived.Laws.BitsLemmas
import Derived.RowKit
import Derived.Test.YtcljkhhjondhcaaDoorExt
import Derived.Test.YtcljkhhjondhcaaDoorExtB
import Derived.Test.YtcljkhhjondhcaaDoorLow
import Derived.Test.YtcljkhhjondhcaaDoorExtC
import Derived.Test.YtcljkhhjondhcaaDoorByR
import Derived.Test.YtcljkhhjondhcaaDoorWWords
import Derived.Test.YtcljkhhjondhcaaDoorWLast
import Derived.Test.YtcljkhhjondhcaaDoorWTab
import Derived.Test.YtcljkhhjondhcaaDoorWFour
import Derived.Test.YtcljkhhjondhcaaDoorWQPut
import Derived.Test.YtcljkhhjondhcaaDoorWApart
import Derived.Test.YtcljkhhjondhcaaDoorWArr
import Derived.Test.YtcljkhhjondhcaaDoorWZeros
import Derived.Test.YtcljkhhjondhcaaDoorWFoot
import Derived.Test.YtcljkhhjondhcaaDoorWKept
import Derived.Test.YtcljkhhjondhcaaDoorWShare
import Derived.Test.YtcljkhhjondhcaaDoorWN
import Derived.Test.YtcljkhhjondhcaaDoorWFootNe
import Derived.Test.YtcljkhhjondhcaaDoorWAt
import Derived.Test.YtcljkhhjondhcaaDoorWEqStruct
import Derived.Test.YtcljkhhjondhcaaDoorWRepsOne
import Derived.Test.YtcljkhhjondhcaaDoorWInv
import Derived.Test.YtcljkhhjondhcaaDoorWInvWords
import Derived.Test.YtcljkhhjondhcaaDoorWGuard
import Derived.Test.YtcljkhhjondhcaaDoorWNEv
import Derived.Test.YtcljkhhjondhcaaDoorWMore
namespace Go.Proofs.YtcljkhhjondhcaaDoor.Ix
open Go.RowKit Go.Proofs.YtcljkhhjondhcaaDoorW.PrintWords Go.Proofs.YtcljkhhjondhcaaDoorW.PrintLast Go.Proofs.YtcljkhhjondhcaaDoorW.PrintMore Go.Proofs.YtcljkhhjondhcaaDoor.Ext
attribute [local go_sem] max2_int min2_int max_two min_two max_three min_three max_four min_four   -- for this text's walks alone
set_option linter.unusedVariables false
set_option linter.unusedSimpArgs false



def errW : Option Int → Value
 | none => .nilIface
 | some c => .iface 0 (.int .i64 c)
theorem errW_none : errW none = .nilIface := rfl
theorem errW_some (c : Int) : errW (some c) = .iface 0 (.int .i64 c) := rfl

theorem info3 : (Tryd.prog.info? 3).map (fun i => (i.zero, i.size, i.bytes)) = some (some (.int .i64 0), 1, 8) := by kernel_rfl
theorem info5 : (Tryd.prog.info? 5).map (fun i => (i.zero, i.size, i.bytes)) = some (some (.int .u8 0), 1, 1) := by kernel_rfl
theorem info9 : (Tryd.prog.info? 9).map (fun i => (i.zero, i.size, i.bytes)) = some (some (.string ⟨#[]⟩), 1, 16) := by kernel_rfl
-- the values' own types

end Go.Proofs.YtcljkhhjondhcaaDoor.Ix
