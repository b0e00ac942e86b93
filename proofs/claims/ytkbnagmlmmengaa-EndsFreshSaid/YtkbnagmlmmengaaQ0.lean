-- A walk, out of the kit's print program run by wip/ownprint.sh and turned by wip/qprune.py. Lean checks it.
import Derived.Test.YtkbnagmlmmengaaProg
import Derived.Below
import Derived.Deep.Draws
import Derived.Deep.AppendLies
import Derived.Maps.AppendAt
import Derived.OwnWalk
import Derived.Laws.BytesArg
import Derived.Laws.MakeOwn
import Derived.Laws.OwnMore
import Derived.Deep.OwnRows
import Derived.Tactics
import Derived.Lib.ConvBytes
import Derived.Laws.Slices
import Derived.WalkKit
import Derived.KernelRfl
import Derived.RowKit3
import Derived.Deep.LoopGhost
import Derived.Deep.QuietTactic
import Derived.BigQuiet
import Derived.WideLaws
import Derived.Deep.DeepCutAuto
import Derived.Deep.CutBlock
import Derived.Deep.RegionHeld3
import Derived.Laws.Rows
import Derived.Lib.AppendStr
import Derived.ArgAppend
import Derived.Laws.IdiomCopy
import Derived.OrdersHeld
import Derived.Laws.BitsLemmas
import Derived.RowKit
import Derived.WalkSpells
import Derived.Test.YtkbnagmlmmengaaWWords
import Derived.Test.YtkbnagmlmmengaaWLast
import Derived.Test.YtkbnagmlmmengaaWTab
import Derived.Test.YtkbnagmlmmengaaWQPut
import Derived.Test.YtkbnagmlmmengaaWApart
import Derived.Test.YtkbnagmlmmengaaWArr
import Derived.Test.YtkbnagmlmmengaaWZeros
import Derived.Test.YtkbnagmlmmengaaWFoot
import Derived.Test.YtkbnagmlmmengaaWKept
import Derived.Test.YtkbnagmlmmengaaWShare
import Derived.Test.YtkbnagmlmmengaaWN
import Derived.Test.YtkbnagmlmmengaaWEqStruct
import Derived.Test.YtkbnagmlmmengaaWRepsOne
import Derived.Test.YtkbnagmlmmengaaWGuard
import Derived.Test.YtkbnagmlmmengaaWNEv
import Derived.Test.YtkbnagmlmmengaaWMore
namespace Go.Proofs.Ytkbnagmlmmengaa.Q
open Go.RowKit Go.Proofs.YtkbnagmlmmengaaW.PrintWords Go.Proofs.YtkbnagmlmmengaaW.PrintLast Go.Proofs.YtkbnagmlmmengaaW.PrintMore
attribute [local go_sem] max2_int min2_int max_two min_two max_three min_three max_four min_four   -- for this text's walks alone
set_option linter.unusedVariables false
set_option linter.unusedSimpArgs false



def errW : Option Int → Value
  | none => .nilIface
  | some c => .iface 0 (.int .i64 c)
theorem errW_none : errW none = .nilIface := rfl
theorem errW_some (c : Int) : errW (some c) = .iface 0 (.int .i64 c) := rfl

theorem info5 : (Try.prog.info? 5).map (fun i => (i.zero, i.size, i.bytes)) = some (some (.int .u8 0), 1, 1) := by kernel_rfl
-- the values' own types

end Go.Proofs.Ytkbnagmlmmengaa.Q
