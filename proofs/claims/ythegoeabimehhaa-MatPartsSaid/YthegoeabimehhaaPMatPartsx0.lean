-- PRINTED by print.py (a twelfth state) out of the translation. Not trusted: Lean checks it.
import Derived.Test.YthegoeabimehhaaProg
import Derived.Below
import Derived.Deep.Draws
import Derived.Deep.AppendLies
import Derived.Maps.AppendAt
import Derived.OwnWalk
import Derived.Laws.BytesArg
import Derived.Laws.MakeOwn
import Derived.Laws.OwnMore
import Derived.Deep.OwnRows
import Derived.Tactics
import Derived.Lib.ConvBytes
import Derived.Laws.Slices
import Derived.WalkKit
import Derived.KernelRfl
import Derived.RowKit3
import Derived.Deep.LoopGhost
import Derived.Deep.QuietTactic
import Derived.BigQuiet
import Derived.WideLaws
import Derived.Deep.DeepCutAuto
import Derived.Deep.CutBlock
import Derived.Deep.RegionHeld3
import Derived.Laws.Rows
import Derived.Lib.AppendStr
import Derived.ArgAppend
import Derived.Laws.IdiomCopy
import Derived.OrdersHeld
import Derived.Laws.BitsLemmas
import Derived.RowKit
import Derived.Test.YthegoeabimehhaaShelf
import Derived.Shelf.GgClosure.Gives
import Derived.Lib.SliceRun
import Derived.Laws.IdiomCopy
import Derived.Deep.RegionLaw
import Derived.Shelf.Spec.BitsCarry
import Derived.Test.YthegoeabimehhaaWWords
import Derived.Test.YthegoeabimehhaaWLast
import Derived.Test.YthegoeabimehhaaWTab
import Derived.Test.YthegoeabimehhaaWFour
import Derived.Test.YthegoeabimehhaaWQPut
import Derived.Test.YthegoeabimehhaaWApart
import Derived.Test.YthegoeabimehhaaWArr
import Derived.Test.YthegoeabimehhaaWZeros
import Derived.Test.YthegoeabimehhaaWFoot
import Derived.Test.YthegoeabimehhaaWKept
import Derived.Test.YthegoeabimehhaaWShare
import Derived.Test.YthegoeabimehhaaWN
import Derived.Test.YthegoeabimehhaaWFootNe
import Derived.Test.YthegoeabimehhaaWAt
import Derived.Test.YthegoeabimehhaaWEqStruct
import Derived.Test.YthegoeabimehhaaWRepsOne
import Derived.Test.YthegoeabimehhaaWInv
import Derived.Test.YthegoeabimehhaaWInvWords
import Derived.Test.YthegoeabimehhaaWGuard
import Derived.Test.YthegoeabimehhaaWNEv
import Derived.Test.YthegoeabimehhaaWMore
namespace Go.Proofs.Ythegoeabimehhaa.PMatParts
open Go.RowKit Go.Proofs.YthegoeabimehhaaW.PrintWords Go.Proofs.YthegoeabimehhaaW.PrintLast Go.Proofs.YthegoeabimehhaaW.PrintMore
attribute [local go_sem] max2_int min2_int max_two min_two max_three min_three max_four min_four   -- for this text's walks alone
set_option linter.unusedVariables false
set_option linter.unusedSimpArgs false



def errW : Option Int → Value
  | none => .nilIface
  | some c => .iface 0 (.int .i64 c)
theorem errW_none : errW none = .nilIface := rfl
theorem errW_some (c : Int) : errW (some c) = .iface 0 (.int .i64 c) := rfl

theorem info30 : (Try.prog.info? 30).map (fun i => (i.zero, i.size, i.bytes)) = some (some (.int .u64 0), 1, 8) := by kernel_rfl
-- the values' own types

end Go.Proofs.Ythegoeabimehhaa.PMatParts
