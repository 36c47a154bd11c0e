/-
  No cell of these rows narrows 'for every input' (looked for: loops, veiled, ifaces, maps, wideKeys, modest, calm, conditions, laid).
  DERIVED. THE GIVEN ROWS OF THIS SEAT. 10 by the template 'for every input the law returns true; each argument reads behind the call as it read before'; 0 by the template 'total and deterministic' (their statements: YtceghmceoliplaaTotals.lean).
  GIVEN WITH THE SEED: the statements are not yours to turn. If you find one false, say at which input.
  Laid BY PROGRAM, IN A SANDBOX (cutbox-rows.mjs): the forced cells as the released guide's own fill.sh prints them over the translation 19d9ba12db7476cb… (all of the seat's roots in one cut). By AI agents, Wed Nov 11 2026. No macro, syntax, notation, axiom, sorry.
-/
import Derived.Test.YtceghmceoliplaaChecked
import GoSem.Claim
import GoSem.ClaimJoined
import GoSem.ClaimMapViews
import Derived.JoinedTies
import Derived.KernelRfl
namespace Go.Proofs.Ytceghmceoliplaa
/- THE CELL 'sum', in the pinned program and in every row, IS THE sha256 OF THE DUMP (.gsa) THAT YtceghmceoliplaaProg.lean LOADS. Nothing in Lean hashes anything: it is a label: what it is worth is what the hold of that sum in a sandbox is worth. -/
noncomputable def Try.pinned : Pinned := { name := "ytceghmceoliplaa", sum := "19d9ba12db7476cb23c96353ec4efa07b091d1ad160b148eaa25ef534fc87999", checked := Try.checked }
namespace Rows
def none {H : Type} : Left H := { results := [], args := [] }

/-- 'vernierlaw17.PermSwaps': WHATEVER THE INPUT: true; the input reads as it did. -/
def permSwapsSpec : ChangeSpec := { name := "permSwaps", fn := fun _ => fun
  | [d1, d2] => { results := [.lit (.bool true)], args := [d1, d2] }
  | _ => none }
def permSwapsRow : OpenClaim := { program := "ytceghmceoliplaa", sum := "19d9ba12db7476cb23c96353ec4efa07b091d1ad160b148eaa25ef534fc87999", func := "vernier/vernierlaw17.PermSwaps", spec := "permSwaps", apart := false }
def PermSwapsSaid : Prop := permSwapsRow.holds Try.pinned (OpenSpec.ofChange permSwapsSpec)

/-- ITS FALSE NEIGHBOUR: 'it returns false'. Refute it at one input. -/
def permSwapsWrong : ChangeSpec := { name := "permSwaps", fn := fun _ => fun
  | [d1, d2] => { results := [.lit (.bool false)], args := [d1, d2] }
  | _ => none }
def PermSwapsWrongFalsely : Prop := permSwapsRow.holds Try.pinned (OpenSpec.ofChange permSwapsWrong)

/-- 'vernierlaw17.PermTells': WHATEVER THE INPUT: true; the input reads as it did. -/
def permTellsSpec : ChangeSpec := { name := "permTells", fn := fun _ => fun
  | [d1, d2, d3] => { results := [.lit (.bool true)], args := [d1, d2, d3] }
  | _ => none }
def permTellsRow : OpenClaim := { program := "ytceghmceoliplaa", sum := "19d9ba12db7476cb23c96353ec4efa07b091d1ad160b148eaa25ef534fc87999", func := "vernier/vernierlaw17.PermTells", spec := "permTells", apart := false }
def PermTellsSaid : Prop := permTellsRow.holds Try.pinned (OpenSpec.ofChange permTellsSpec)

/-- ITS FALSE NEIGHBOUR: 'it returns false'. Refute it at one input. -/
def permTellsWrong : ChangeSpec := { name := "permTells", fn := fun _ => fun
  | [d1, d2, d3] => { results := [.lit (.bool false)], args := [d1, d2, d3] }
  | _ => none }
def PermTellsWrongFalsely : Prop := permTellsRow.holds Try.pinned (OpenSpec.ofChange permTellsWrong)

/-- 'vernierlaw24.PivotGreatest': WHATEVER THE INPUT: true; the input reads as it did. -/
def pivotGreatestSpec : ChangeSpec := { name := "pivotGreatest", fn := fun _ => fun
  | [d1, d2, d3] => { results := [.lit (.bool true)], args := [d1, d2, d3] }
  | _ => none }
def pivotGreatestRow : OpenClaim := { program := "ytceghmceoliplaa", sum := "19d9ba12db7476cb23c96353ec4efa07b091d1ad160b148eaa25ef534fc87999", func := "vernier/vernierlaw24.PivotGreatest", spec := "pivotGreatest", unfollowed := true, recurses := true, apart := false }
def PivotGreatestSaid : Prop := pivotGreatestRow.holds Try.pinned (OpenSpec.ofChange pivotGreatestSpec)

/-- ITS FALSE NEIGHBOUR: 'it returns false'. Refute it at one input. -/
def pivotGreatestWrong : ChangeSpec := { name := "pivotGreatest", fn := fun _ => fun
  | [d1, d2, d3] => { results := [.lit (.bool false)], args := [d1, d2, d3] }
  | _ => none }
def PivotGreatestWrongFalsely : Prop := pivotGreatestRow.holds Try.pinned (OpenSpec.ofChange pivotGreatestWrong)

/-- 'vernierlaw18.ArenaRuns': WHATEVER THE INPUT: true; the input reads as it did. -/
def arenaRunsSpec : ChangeSpec := { name := "arenaRuns", fn := fun _ => fun
  | [d1, d2] => { results := [.lit (.bool true)], args := [d1, d2] }
  | _ => none }
def arenaRunsRow : OpenClaim := { program := "ytceghmceoliplaa", sum := "19d9ba12db7476cb23c96353ec4efa07b091d1ad160b148eaa25ef534fc87999", func := "vernier/vernierlaw18.ArenaRuns", spec := "arenaRuns", apart := false }
def ArenaRunsSaid : Prop := arenaRunsRow.holds Try.pinned (OpenSpec.ofChange arenaRunsSpec)

/-- ITS FALSE NEIGHBOUR: 'it returns false'. Refute it at one input. -/
def arenaRunsWrong : ChangeSpec := { name := "arenaRuns", fn := fun _ => fun
  | [d1, d2] => { results := [.lit (.bool false)], args := [d1, d2] }
  | _ => none }
def ArenaRunsWrongFalsely : Prop := arenaRunsRow.holds Try.pinned (OpenSpec.ofChange arenaRunsWrong)

/-- 'vernierlaw18.ArenaLends': WHATEVER THE INPUT: true; the input reads as it did. -/
def arenaLendsSpec : ChangeSpec := { name := "arenaLends", fn := fun _ => fun
  | [d1, d2] => { results := [.lit (.bool true)], args := [d1, d2] }
  | _ => none }
def arenaLendsRow : OpenClaim := { program := "ytceghmceoliplaa", sum := "19d9ba12db7476cb23c96353ec4efa07b091d1ad160b148eaa25ef534fc87999", func := "vernier/vernierlaw18.ArenaLends", spec := "arenaLends", apart := false }
def ArenaLendsSaid : Prop := arenaLendsRow.holds Try.pinned (OpenSpec.ofChange arenaLendsSpec)

/-- ITS FALSE NEIGHBOUR: 'it returns false'. Refute it at one input. -/
def arenaLendsWrong : ChangeSpec := { name := "arenaLends", fn := fun _ => fun
  | [d1, d2] => { results := [.lit (.bool false)], args := [d1, d2] }
  | _ => none }
def ArenaLendsWrongFalsely : Prop := arenaLendsRow.holds Try.pinned (OpenSpec.ofChange arenaLendsWrong)

/-- 'vernierlaw24.PivotTells': WHATEVER THE INPUT: true; the input reads as it did. -/
def pivotTellsSpec : ChangeSpec := { name := "pivotTells", fn := fun _ => fun
  | [d1, d2, d3, d4] => { results := [.lit (.bool true)], args := [d1, d2, d3, d4] }
  | _ => none }
def pivotTellsRow : OpenClaim := { program := "ytceghmceoliplaa", sum := "19d9ba12db7476cb23c96353ec4efa07b091d1ad160b148eaa25ef534fc87999", func := "vernier/vernierlaw24.PivotTells", spec := "pivotTells", apart := false }
def PivotTellsSaid : Prop := pivotTellsRow.holds Try.pinned (OpenSpec.ofChange pivotTellsSpec)

/-- ITS FALSE NEIGHBOUR: 'it returns false'. Refute it at one input. -/
def pivotTellsWrong : ChangeSpec := { name := "pivotTells", fn := fun _ => fun
  | [d1, d2, d3, d4] => { results := [.lit (.bool false)], args := [d1, d2, d3, d4] }
  | _ => none }
def PivotTellsWrongFalsely : Prop := pivotTellsRow.holds Try.pinned (OpenSpec.ofChange pivotTellsWrong)

/-- 'vernierlaw17.PermOdd': WHATEVER THE INPUT: true; the input reads as it did. -/
def permOddSpec : ChangeSpec := { name := "permOdd", fn := fun _ => fun
  | [d1, d2] => { results := [.lit (.bool true)], args := [d1, d2] }
  | _ => none }
def permOddRow : OpenClaim := { program := "ytceghmceoliplaa", sum := "19d9ba12db7476cb23c96353ec4efa07b091d1ad160b148eaa25ef534fc87999", func := "vernier/vernierlaw17.PermOdd", spec := "permOdd", apart := false }
def PermOddSaid : Prop := permOddRow.holds Try.pinned (OpenSpec.ofChange permOddSpec)

/-- ITS FALSE NEIGHBOUR: 'it returns false'. Refute it at one input. -/
def permOddWrong : ChangeSpec := { name := "permOdd", fn := fun _ => fun
  | [d1, d2] => { results := [.lit (.bool false)], args := [d1, d2] }
  | _ => none }
def PermOddWrongFalsely : Prop := permOddRow.holds Try.pinned (OpenSpec.ofChange permOddWrong)

/-- 'vernierlaw17.PermRows': WHATEVER THE INPUT: true; the input reads as it did. -/
def permRowsSpec : ChangeSpec := { name := "permRows", fn := fun _ => fun
  | [d1, d2] => { results := [.lit (.bool true)], args := [d1, d2] }
  | _ => none }
def permRowsRow : OpenClaim := { program := "ytceghmceoliplaa", sum := "19d9ba12db7476cb23c96353ec4efa07b091d1ad160b148eaa25ef534fc87999", func := "vernier/vernierlaw17.PermRows", spec := "permRows", apart := false }
def PermRowsSaid : Prop := permRowsRow.holds Try.pinned (OpenSpec.ofChange permRowsSpec)

/-- ITS FALSE NEIGHBOUR: 'it returns false'. Refute it at one input. -/
def permRowsWrong : ChangeSpec := { name := "permRows", fn := fun _ => fun
  | [d1, d2] => { results := [.lit (.bool false)], args := [d1, d2] }
  | _ => none }
def PermRowsWrongFalsely : Prop := permRowsRow.holds Try.pinned (OpenSpec.ofChange permRowsWrong)

/-- 'vernierlaw18.ArenaApart': WHATEVER THE INPUT: true; the input reads as it did. -/
def arenaApartSpec : ChangeSpec := { name := "arenaApart", fn := fun _ => fun
  | [d1, d2, d3, d4] => { results := [.lit (.bool true)], args := [d1, d2, d3, d4] }
  | _ => none }
def arenaApartRow : OpenClaim := { program := "ytceghmceoliplaa", sum := "19d9ba12db7476cb23c96353ec4efa07b091d1ad160b148eaa25ef534fc87999", func := "vernier/vernierlaw18.ArenaApart", spec := "arenaApart", apart := false }
def ArenaApartSaid : Prop := arenaApartRow.holds Try.pinned (OpenSpec.ofChange arenaApartSpec)

/-- ITS FALSE NEIGHBOUR: 'it returns false'. Refute it at one input. -/
def arenaApartWrong : ChangeSpec := { name := "arenaApart", fn := fun _ => fun
  | [d1, d2, d3, d4] => { results := [.lit (.bool false)], args := [d1, d2, d3, d4] }
  | _ => none }
def ArenaApartWrongFalsely : Prop := arenaApartRow.holds Try.pinned (OpenSpec.ofChange arenaApartWrong)

/-- 'vernierlaw24.PivotBack': WHATEVER THE INPUT: true; the input reads as it did. -/
def pivotBackSpec : ChangeSpec := { name := "pivotBack", fn := fun _ => fun
  | [d1, d2] => { results := [.lit (.bool true)], args := [d1, d2] }
  | _ => none }
def pivotBackRow : OpenClaim := { program := "ytceghmceoliplaa", sum := "19d9ba12db7476cb23c96353ec4efa07b091d1ad160b148eaa25ef534fc87999", func := "vernier/vernierlaw24.PivotBack", spec := "pivotBack", unfollowed := true, recurses := true, apart := false }
def PivotBackSaid : Prop := pivotBackRow.holds Try.pinned (OpenSpec.ofChange pivotBackSpec)

/-- ITS FALSE NEIGHBOUR: 'it returns false'. Refute it at one input. -/
def pivotBackWrong : ChangeSpec := { name := "pivotBack", fn := fun _ => fun
  | [d1, d2] => { results := [.lit (.bool false)], args := [d1, d2] }
  | _ => none }
def PivotBackWrongFalsely : Prop := pivotBackRow.holds Try.pinned (OpenSpec.ofChange pivotBackWrong)

/- THE SECOND FORM. 'bulk': how many values and letters a reading holds, each counted each time it is reached (what is shared counts as often as it is met; a slice's spare places count too). A statement '..UptoSaid' is the law's where the arguments, and the package variables that the reading takes, are together of bulk at most 1048576: NARROWER than '..Said'. Prove '..Said' where nothing that the law and all that it calls make is longer than what came in: it says more and counts as full. Else prove '..UptoSaid'. A law counts once. -/
mutual
def uptoBulk {H : Type} : DataW H → Nat
  | .lit (.string bytes) => bytes.length + 1
  | .lit _ => 1
  | .nil => 1
  | .ptr d => uptoBulk d + 1
  | .slice elems spare => uptoBulkAll elems + uptoBulkAll spare + 1
  | .agg parts => uptoBulkAll parts + 1
  | .iface _ d => uptoBulk d + 1
  | .map entries => uptoBulkEntries entries + 1
  | .held _ => 1
def uptoBulkAll {H : Type} : List (DataW H) → Nat
  | [] => 0
  | d :: r => uptoBulk d + uptoBulkAll r
def uptoBulkEntries {H : Type} : List (Lit × DataW H) → Nat
  | [] => 0
  | x :: r => uptoBulkEntry x + uptoBulkEntries r
def uptoBulkEntry {H : Type} : Lit × DataW H → Nat
  | (.string bytes, d) => bytes.length + uptoBulk d + 1
  | (_, d) => uptoBulk d + 1
 end
def uptoSmall : (H : Type) → List (DataW H) → Bool := fun _ ds => decide (uptoBulkAll ds ≤ 1048576)
def OpenSpec.upto (s : _root_.Go.ChangeSpec) : _root_.Go.OpenSpec := { _root_.Go.OpenSpec.ofChange s with cond := some uptoSmall }

/-- 'vernierlaw17.PermSwaps', WHERE WHAT IT READS IS OF BULK AT MOST 1048576: true; the input reads as it did. -/
def permSwapsUptoRow : OpenClaim := { program := "ytceghmceoliplaa", sum := "19d9ba12db7476cb23c96353ec4efa07b091d1ad160b148eaa25ef534fc87999", func := "vernier/vernierlaw17.PermSwaps", spec := "permSwaps", apart := false, narrowed := true }
def PermSwapsUptoSaid : Prop := permSwapsUptoRow.holds Try.pinned (OpenSpec.upto permSwapsSpec)

/-- 'vernierlaw17.PermTells', WHERE WHAT IT READS IS OF BULK AT MOST 1048576: true; the input reads as it did. -/
def permTellsUptoRow : OpenClaim := { program := "ytceghmceoliplaa", sum := "19d9ba12db7476cb23c96353ec4efa07b091d1ad160b148eaa25ef534fc87999", func := "vernier/vernierlaw17.PermTells", spec := "permTells", apart := false, narrowed := true }
def PermTellsUptoSaid : Prop := permTellsUptoRow.holds Try.pinned (OpenSpec.upto permTellsSpec)

/-- 'vernierlaw24.PivotGreatest', WHERE WHAT IT READS IS OF BULK AT MOST 1048576: true; the input reads as it did. -/
def pivotGreatestUptoRow : OpenClaim := { program := "ytceghmceoliplaa", sum := "19d9ba12db7476cb23c96353ec4efa07b091d1ad160b148eaa25ef534fc87999", func := "vernier/vernierlaw24.PivotGreatest", spec := "pivotGreatest", unfollowed := true, recurses := true, apart := false, narrowed := true }
def PivotGreatestUptoSaid : Prop := pivotGreatestUptoRow.holds Try.pinned (OpenSpec.upto pivotGreatestSpec)

/-- 'vernierlaw18.ArenaRuns', WHERE WHAT IT READS IS OF BULK AT MOST 1048576: true; the input reads as it did. -/
def arenaRunsUptoRow : OpenClaim := { program := "ytceghmceoliplaa", sum := "19d9ba12db7476cb23c96353ec4efa07b091d1ad160b148eaa25ef534fc87999", func := "vernier/vernierlaw18.ArenaRuns", spec := "arenaRuns", apart := false, narrowed := true }
def ArenaRunsUptoSaid : Prop := arenaRunsUptoRow.holds Try.pinned (OpenSpec.upto arenaRunsSpec)

/-- 'vernierlaw18.ArenaLends', WHERE WHAT IT READS IS OF BULK AT MOST 1048576: true; the input reads as it did. -/
def arenaLendsUptoRow : OpenClaim := { program := "ytceghmceoliplaa", sum := "19d9ba12db7476cb23c96353ec4efa07b091d1ad160b148eaa25ef534fc87999", func := "vernier/vernierlaw18.ArenaLends", spec := "arenaLends", apart := false, narrowed := true }
def ArenaLendsUptoSaid : Prop := arenaLendsUptoRow.holds Try.pinned (OpenSpec.upto arenaLendsSpec)

/-- 'vernierlaw24.PivotTells', WHERE WHAT IT READS IS OF BULK AT MOST 1048576: true; the input reads as it did. -/
def pivotTellsUptoRow : OpenClaim := { program := "ytceghmceoliplaa", sum := "19d9ba12db7476cb23c96353ec4efa07b091d1ad160b148eaa25ef534fc87999", func := "vernier/vernierlaw24.PivotTells", spec := "pivotTells", apart := false, narrowed := true }
def PivotTellsUptoSaid : Prop := pivotTellsUptoRow.holds Try.pinned (OpenSpec.upto pivotTellsSpec)

/-- 'vernierlaw17.PermOdd', WHERE WHAT IT READS IS OF BULK AT MOST 1048576: true; the input reads as it did. -/
def permOddUptoRow : OpenClaim := { program := "ytceghmceoliplaa", sum := "19d9ba12db7476cb23c96353ec4efa07b091d1ad160b148eaa25ef534fc87999", func := "vernier/vernierlaw17.PermOdd", spec := "permOdd", apart := false, narrowed := true }
def PermOddUptoSaid : Prop := permOddUptoRow.holds Try.pinned (OpenSpec.upto permOddSpec)

/-- 'vernierlaw17.PermRows', WHERE WHAT IT READS IS OF BULK AT MOST 1048576: true; the input reads as it did. -/
def permRowsUptoRow : OpenClaim := { program := "ytceghmceoliplaa", sum := "19d9ba12db7476cb23c96353ec4efa07b091d1ad160b148eaa25ef534fc87999", func := "vernier/vernierlaw17.PermRows", spec := "permRows", apart := false, narrowed := true }
def PermRowsUptoSaid : Prop := permRowsUptoRow.holds Try.pinned (OpenSpec.upto permRowsSpec)

/-- 'vernierlaw18.ArenaApart', WHERE WHAT IT READS IS OF BULK AT MOST 1048576: true; the input reads as it did. -/
def arenaApartUptoRow : OpenClaim := { program := "ytceghmceoliplaa", sum := "19d9ba12db7476cb23c96353ec4efa07b091d1ad160b148eaa25ef534fc87999", func := "vernier/vernierlaw18.ArenaApart", spec := "arenaApart", apart := false, narrowed := true }
def ArenaApartUptoSaid : Prop := arenaApartUptoRow.holds Try.pinned (OpenSpec.upto arenaApartSpec)

/-- 'vernierlaw24.PivotBack', WHERE WHAT IT READS IS OF BULK AT MOST 1048576: true; the input reads as it did. -/
def pivotBackUptoRow : OpenClaim := { program := "ytceghmceoliplaa", sum := "19d9ba12db7476cb23c96353ec4efa07b091d1ad160b148eaa25ef534fc87999", func := "vernier/vernierlaw24.PivotBack", spec := "pivotBack", unfollowed := true, recurses := true, apart := false, narrowed := true }
def PivotBackUptoSaid : Prop := pivotBackUptoRow.holds Try.pinned (OpenSpec.upto pivotBackSpec)

end Rows
end Go.Proofs.Ytceghmceoliplaa
