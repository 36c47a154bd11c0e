-- PRINTED by print.py (a twelfth state) out of the translation. Not trusted: Lean checks it.
import Derived.Test.YtklkebbdjppnkaaProg
import Derived.Below
import Derived.Deep.Draws
import Derived.Deep.AppendLies
import Derived.Maps.AppendAt
import Derived.OwnWalk
import Derived.Laws.BytesArg
import Derived.Laws.MakeOwn
import Derived.Laws.OwnMore
import Derived.Deep.OwnRows
import Derived.Tactics
import Derived.Lib.ConvBytes
import Derived.Laws.Slices
import Derived.WalkKit
import Derived.KernelRfl
import Derived.RowKit3
import Derived.Deep.LoopGhost
import Derived.Deep.QuietTactic
import Derived.BigQuiet
import Derived.WideLaws
import Derived.Deep.DeepCutAuto
import Derived.Deep.CutBlock
import Derived.Deep.RegionHeld3
import Derived.Laws.Rows
import Derived.Lib.AppendStr
import Derived.ArgAppend
import Derived.Laws.IdiomCopy
import Derived.OrdersHeld
import Derived.Laws.BitsLemmas
import Derived.RowKit
import Derived.Test.YtklkebbdjppnkaaShelf
import Derived.Test.YtklkebbdjppnkaaWWords
import Derived.Test.YtklkebbdjppnkaaWLast
import Derived.Test.YtklkebbdjppnkaaWTab
import Derived.Test.YtklkebbdjppnkaaWFour
import Derived.Test.YtklkebbdjppnkaaWQPut
import Derived.Test.YtklkebbdjppnkaaWApart
import Derived.Test.YtklkebbdjppnkaaWArr
import Derived.Test.YtklkebbdjppnkaaWZeros
import Derived.Test.YtklkebbdjppnkaaWFoot
import Derived.Test.YtklkebbdjppnkaaWKept
import Derived.Test.YtklkebbdjppnkaaWShare
import Derived.Test.YtklkebbdjppnkaaWN
import Derived.Test.YtklkebbdjppnkaaWFootNe
import Derived.Test.YtklkebbdjppnkaaWAt
import Derived.Test.YtklkebbdjppnkaaWEqStruct
import Derived.Test.YtklkebbdjppnkaaWRepsOne
import Derived.Test.YtklkebbdjppnkaaWInv
import Derived.Test.YtklkebbdjppnkaaWInvWords
import Derived.Test.YtklkebbdjppnkaaWGuard
import Derived.Test.YtklkebbdjppnkaaWNEv
import Derived.Test.YtklkebbdjppnkaaWMore
namespace Go.Proofs.Ytklkebbdjppnkaa.PFsqrtNear
open Go.RowKit Go.Proofs.YtklkebbdjppnkaaW.PrintWords Go.Proofs.YtklkebbdjppnkaaW.PrintLast Go.Proofs.YtklkebbdjppnkaaW.PrintMore
attribute [local go_sem] max2_int min2_int max_two min_two max_three min_three max_four min_four   -- for this text's walks alone
set_option linter.unusedVariables false
set_option linter.unusedSimpArgs false



def errW : Option Int → Value
  | none => .nilIface
  | some c => .iface 0 (.int .i64 c)
theorem errW_none : errW none = .nilIface := rfl
theorem errW_some (c : Int) : errW (some c) = .iface 0 (.int .i64 c) := rfl

theorem info3 : (Try.prog.info? 3).map (fun i => (i.zero, i.size, i.bytes)) = some (some (.int .i64 0), 1, 8) := by kernel_rfl
theorem info22 : (Try.prog.info? 22).map (fun i => (i.zero, i.size, i.bytes)) = some (some (.int .u64 0), 1, 8) := by kernel_rfl
-- the values' own types

end Go.Proofs.Ytklkebbdjppnkaa.PFsqrtNear
