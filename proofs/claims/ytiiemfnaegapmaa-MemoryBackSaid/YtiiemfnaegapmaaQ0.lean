-- A walk, out of the kit's print program run by wip/ownprint.sh and turned by wip/qprune.py. Lean checks it.
import Derived.Test.YtiiemfnaegapmaaProg
import Derived.Below
import Derived.Deep.Draws
import Derived.Deep.AppendLies
import Derived.Maps.AppendAt
import Derived.OwnWalk
import Derived.Laws.BytesArg
import Derived.Laws.MakeOwn
import Derived.Laws.OwnMore
import Derived.Deep.OwnRows
import Derived.Tactics
import Derived.Lib.ConvBytes
import Derived.Laws.Slices
import Derived.WalkKit
import Derived.KernelRfl
import Derived.RowKit3
import Derived.Deep.LoopGhost
import Derived.Deep.QuietTactic
import Derived.BigQuiet
import Derived.WideLaws
import Derived.Deep.DeepCutAuto
import Derived.Deep.CutBlock
import Derived.Deep.RegionHeld3
import Derived.Laws.Rows
import Derived.Lib.AppendStr
import Derived.ArgAppend
import Derived.Laws.IdiomCopy
import Derived.OrdersHeld
import Derived.Laws.BitsLemmas
import Derived.RowKit
import Derived.WalkSpells
import Derived.Test.YtiiemfnaegapmaaWWords
import Derived.Test.YtiiemfnaegapmaaWLast
import Derived.Test.YtiiemfnaegapmaaWTab
import Derived.Test.YtiiemfnaegapmaaWQPut
import Derived.Test.YtiiemfnaegapmaaWApart
import Derived.Test.YtiiemfnaegapmaaWArr
import Derived.Test.YtiiemfnaegapmaaWZeros
import Derived.Test.YtiiemfnaegapmaaWFoot
import Derived.Test.YtiiemfnaegapmaaWKept
import Derived.Test.YtiiemfnaegapmaaWShare
import Derived.Test.YtiiemfnaegapmaaWN
import Derived.Test.YtiiemfnaegapmaaWEqStruct
import Derived.Test.YtiiemfnaegapmaaWRepsOne
import Derived.Test.YtiiemfnaegapmaaWGuard
import Derived.Test.YtiiemfnaegapmaaWNEv
import Derived.Test.YtiiemfnaegapmaaWMore
namespace Go.Proofs.Ytiiemfnaegapmaa.Q
open Go.RowKit Go.Proofs.YtiiemfnaegapmaaW.PrintWords Go.Proofs.YtiiemfnaegapmaaW.PrintLast Go.Proofs.YtiiemfnaegapmaaW.PrintMore
attribute [local go_sem] max2_int min2_int max_two min_two max_three min_three max_four min_four   -- for this text's walks alone
set_option linter.unusedVariables false
set_option linter.unusedSimpArgs false



def errW : Option Int → Value
  | none => .nilIface
  | some c => .iface 0 (.int .i64 c)
theorem errW_none : errW none = .nilIface := rfl
theorem errW_some (c : Int) : errW (some c) = .iface 0 (.int .i64 c) := rfl

theorem info5 : (Try.prog.info? 5).map (fun i => (i.zero, i.size, i.bytes)) = some (some (.int .u8 0), 1, 1) := by kernel_rfl
-- the values' own types

end Go.Proofs.Ytiiemfnaegapmaa.Q
