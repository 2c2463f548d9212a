-- Written by this session's program over the kit's printer (wip/gen/gp.py): Lean checks it.
import Derived.Test.YticdpekeaipnaaaProg
import Derived.Below
import Derived.Deep.Draws
import Derived.Deep.AppendLies
import Derived.Maps.AppendAt
import Derived.OwnWalk
import Derived.Laws.BytesArg
import Derived.Laws.MakeOwn
import Derived.Laws.OwnMore
import Derived.Deep.OwnRows
import Derived.Tactics
import Derived.Lib.ConvBytes
import Derived.Laws.Slices
import Derived.WalkKit
import Derived.KernelRfl
import Derived.RowKit3
import Derived.Deep.LoopGhost
import Derived.Deep.QuietTactic
import Derived.BigQuiet
import Derived.WideLaws
import Derived.Deep.DeepCutAuto
import Derived.Deep.CutBlock
import Derived.Deep.RegionHeld3
import Derived.Laws.Rows
import Derived.Lib.AppendStr
import Derived.ArgAppend
import Derived.Laws.IdiomCopy
import Derived.OrdersHeld
import Derived.Laws.BitsLemmas
import Derived.RowKit
import Derived.Test.YticdpekeaipnaaaWWords
import Derived.Test.YticdpekeaipnaaaWLast
import Derived.Test.YticdpekeaipnaaaWTab
import Derived.Test.YticdpekeaipnaaaWFour
import Derived.Test.YticdpekeaipnaaaWQPut
import Derived.Test.YticdpekeaipnaaaWApart
import Derived.Test.YticdpekeaipnaaaWArr
import Derived.Test.YticdpekeaipnaaaWZeros
import Derived.Test.YticdpekeaipnaaaWFoot
import Derived.Test.YticdpekeaipnaaaWKept
import Derived.Test.YticdpekeaipnaaaWShare
import Derived.Test.YticdpekeaipnaaaWN
import Derived.Test.YticdpekeaipnaaaWFootNe
import Derived.Test.YticdpekeaipnaaaWAt
import Derived.Test.YticdpekeaipnaaaWEqStruct
import Derived.Test.YticdpekeaipnaaaWRepsOne
import Derived.Test.YticdpekeaipnaaaWInv
import Derived.Test.YticdpekeaipnaaaWInvWords
import Derived.Test.YticdpekeaipnaaaWGuard
import Derived.Test.YticdpekeaipnaaaWNEv
import Derived.Test.YticdpekeaipnaaaWMore
namespace Go.Proofs.Yticdpekeaipnaaa.PFnExactPlainCats
open Go.RowKit Go.Proofs.YticdpekeaipnaaaW.PrintWords Go.Proofs.YticdpekeaipnaaaW.PrintLast Go.Proofs.YticdpekeaipnaaaW.PrintMore
attribute [local go_sem] max2_int min2_int max_two min_two max_three min_three max_four min_four   -- for this text's walks alone
set_option linter.unusedVariables false
set_option linter.unusedSimpArgs false



def errW : Option Int → Value
  | none => .nilIface
  | some c => .iface 0 (.int .i64 c)
theorem errW_none : errW none = .nilIface := rfl
theorem errW_some (c : Int) : errW (some c) = .iface 0 (.int .i64 c) := rfl

theorem info2 : (Try.prog.info? 2).map (fun i => (i.zero, i.size, i.bytes)) = some (some (.int .i64 0), 1, 8) := by kernel_rfl
-- the values' own types

end Go.Proofs.Yticdpekeaipnaaa.PFnExactPlainCats
