-- Written by this session's program over the kit's printer (wip/gen/gp.py): Lean checks it.
import Derived.Test.YtabamachefgilaaDoorProg
import Derived.Below
import Derived.Deep.Draws
import Derived.Deep.AppendLies
import Derived.Maps.AppendAt
import Derived.OwnWalk
import Derived.Laws.BytesArg
import Derived.Laws.MakeOwn
import Derived.Laws.OwnMore
import Derived.Deep.OwnRows
import Derived.Tactics
import Derived.Lib.ConvBytes
import Derived.Laws.Slices
import Derived.WalkKit
import Derived.KernelRfl
import Derived.RowKit3
import Derived.Deep.LoopGhost
import Derived.Deep.QuietTactic
import Derived.BigQuiet
import Derived.WideLaws
import Derived.Deep.DeepCutAuto
import Derived.Deep.CutBlock
import Derived.Deep.RegionHeld3
import Derived.Laws.Rows
import Derived.Lib.AppendStr
import Derived.ArgAppend
import Derived.Laws.IdiomCopy
import Derived.OrdersHeld
import Derived.Laws.BitsLemmas
import Derived.RowKit
import Derived.Lib.Strings
import Derived.Lib.Walk
import Derived.Lib.BufferWrite
import Derived.Lib.UnsafeStr
import Derived.Lib.Hide
import Derived.Test.YtabamachefgilaaDoorWWords
import Derived.Test.YtabamachefgilaaDoorWLast
import Derived.Test.YtabamachefgilaaDoorWTab
import Derived.Test.YtabamachefgilaaDoorWFour
import Derived.Test.YtabamachefgilaaDoorWQPut
import Derived.Test.YtabamachefgilaaDoorWApart
import Derived.Test.YtabamachefgilaaDoorWArr
import Derived.Test.YtabamachefgilaaDoorWZeros
import Derived.Test.YtabamachefgilaaDoorWFoot
import Derived.Test.YtabamachefgilaaDoorWKept
import Derived.Test.YtabamachefgilaaDoorWShare
import Derived.Test.YtabamachefgilaaDoorWN
import Derived.Test.YtabamachefgilaaDoorWFootNe
import Derived.Test.YtabamachefgilaaDoorWAt
import Derived.Test.YtabamachefgilaaDoorWEqStruct
import Derived.Test.YtabamachefgilaaDoorWRepsOne
import Derived.Test.YtabamachefgilaaDoorWInv
import Derived.Test.YtabamachefgilaaDoorWInvWords
import Derived.Test.YtabamachefgilaaDoorWGuard
import Derived.Test.YtabamachefgilaaDoorWNEv
import Derived.Test.YtabamachefgilaaDoorWMore
namespace Go.Proofs.YtabamachefgilaaDoor.PFnExactReadPattern
open Go.RowKit Go.Proofs.YtabamachefgilaaDoorW.PrintWords Go.Proofs.YtabamachefgilaaDoorW.PrintLast Go.Proofs.YtabamachefgilaaDoorW.PrintMore
attribute [local go_sem] max2_int min2_int max_two min_two max_three min_three max_four min_four   -- for this text's walks alone
set_option linter.unusedVariables false
set_option linter.unusedSimpArgs false



def errW : Option Int → Value
  | none => .nilIface
  | some c => .iface 0 (.int .i64 c)
theorem errW_none : errW none = .nilIface := rfl
theorem errW_some (c : Int) : errW (some c) = .iface 0 (.int .i64 c) := rfl

theorem info2 : (Tryd.prog.info? 2).map (fun i => (i.zero, i.size, i.bytes)) = some (some (.int .i64 0), 1, 8) := by kernel_rfl
theorem info5 : (Tryd.prog.info? 5).map (fun i => (i.zero, i.size, i.bytes)) = some (some (.int .u8 0), 1, 1) := by kernel_rfl
-- the values' own types

end Go.Proofs.YtabamachefgilaaDoor.PFnExactReadPattern
