-- PRINTED by print.py (a twelfth state) out of the translation. Not trusted: Lean checks it.
import Derived.Test.YtdkmmelbadcpjaaProg
import Derived.Below
import Derived.Deep.Draws
import Derived.Deep.AppendLies
import Derived.Maps.AppendAt
import Derived.OwnWalk
import Derived.Laws.BytesArg
import Derived.Laws.MakeOwn
import Derived.Laws.OwnMore
import Derived.Deep.OwnRows
import Derived.Tactics
import Derived.Lib.ConvBytes
import Derived.Laws.Slices
import Derived.WalkKit
import Derived.KernelRfl
import Derived.RowKit3
import Derived.Deep.LoopGhost
import Derived.Deep.QuietTactic
import Derived.BigQuiet
import Derived.WideLaws
import Derived.Deep.DeepCutAuto
import Derived.Deep.CutBlock
import Derived.Deep.RegionHeld3
import Derived.Laws.Rows
import Derived.Lib.AppendStr
import Derived.ArgAppend
import Derived.Laws.IdiomCopy
import Derived.OrdersHeld
import Derived.Laws.BitsLemmas
import Derived.RowKit
import Derived.Shelf.GgClosure.Gives
import Derived.MapKept
import Derived.Test.YtdkmmelbadcpjaaWWords
import Derived.Test.YtdkmmelbadcpjaaWLast
import Derived.Test.YtdkmmelbadcpjaaWTab
import Derived.Test.YtdkmmelbadcpjaaWFour
import Derived.Test.YtdkmmelbadcpjaaWQPut
import Derived.Test.YtdkmmelbadcpjaaWApart
import Derived.Test.YtdkmmelbadcpjaaWArr
import Derived.Test.YtdkmmelbadcpjaaWZeros
import Derived.Test.YtdkmmelbadcpjaaWFoot
import Derived.Test.YtdkmmelbadcpjaaWKept
import Derived.Test.YtdkmmelbadcpjaaWShare
import Derived.Test.YtdkmmelbadcpjaaWN
import Derived.Test.YtdkmmelbadcpjaaWFootNe
import Derived.Test.YtdkmmelbadcpjaaWAt
import Derived.Test.YtdkmmelbadcpjaaWEqStruct
import Derived.Test.YtdkmmelbadcpjaaWRepsOne
import Derived.Test.YtdkmmelbadcpjaaWInv
import Derived.Test.YtdkmmelbadcpjaaWInvWords
import Derived.Test.YtdkmmelbadcpjaaWGuard
import Derived.Test.YtdkmmelbadcpjaaWNEv
import Derived.Test.YtdkmmelbadcpjaaWMore
namespace Go.Proofs.Ytdkmmelbadcpjaa.PViewPlaces
open Go.RowKit Go.Proofs.YtdkmmelbadcpjaaW.PrintWords Go.Proofs.YtdkmmelbadcpjaaW.PrintLast Go.Proofs.YtdkmmelbadcpjaaW.PrintMore
attribute [local go_sem] max2_int min2_int max_two min_two max_three min_three max_four min_four   -- for this text's walks alone
set_option linter.unusedVariables false
set_option linter.unusedSimpArgs false



def errW : Option Int → Value
  | none => .nilIface
  | some c => .iface 0 (.int .i64 c)
theorem errW_none : errW none = .nilIface := rfl
theorem errW_some (c : Int) : errW (some c) = .iface 0 (.int .i64 c) := rfl

theorem info3 : (Try.prog.info? 3).map (fun i => (i.zero, i.size, i.bytes)) = some (some (.int .i64 0), 1, 8) := by kernel_rfl
-- the values' own types

end Go.Proofs.Ytdkmmelbadcpjaa.PViewPlaces
