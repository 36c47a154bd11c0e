/-
  No cell of these rows narrows 'for every input' (looked for: loops, veiled, ifaces, maps, wideKeys, modest, calm, conditions, laid).
  DERIVED. THE GIVEN ROWS OF THIS SEAT. 3 by the template 'for every input the law returns true; each argument reads behind the call as it read before'; 0 by the template 'total and deterministic' (their statements: YthegoeabimehhaaTotals.lean).
  GIVEN WITH THE SEED: the statements are not yours to turn. If you find one false, say at which input.
  Laid BY PROGRAM, IN A SANDBOX (cutbox-rows.mjs): the forced cells as the released guide's own fill.sh prints them over the translation d431258ff1e9ec47… (all of the seat's roots in one cut). By AI agents, Wed Nov 11 2026. No macro, syntax, notation, axiom, sorry.
-/
import Derived.Test.YthegoeabimehhaaChecked
import GoSem.Claim
import GoSem.ClaimJoined
import GoSem.ClaimMapViews
import Derived.JoinedTies
import Derived.KernelRfl
namespace Go.Proofs.Ythegoeabimehhaa
/- THE CELL 'sum', in the pinned program and in every row, IS THE sha256 OF THE DUMP (.gsa) THAT YthegoeabimehhaaProg.lean LOADS. Nothing in Lean hashes anything: it is a label: what it is worth is what the hold of that sum in a sandbox is worth. -/
noncomputable def Try.pinned : Pinned := { name := "ythegoeabimehhaa", sum := "d431258ff1e9ec475be4018d9a78a92fe0f9aa65691ad164d4270e1712b97c90", checked := Try.checked }
namespace Rows
def none {H : Type} : Left H := { results := [], args := [] }

/-- 'vernierlaw23.NormTurns': WHATEVER THE INPUT: true; the input reads as it did. -/
def normTurnsSpec : ChangeSpec := { name := "normTurns", fn := fun _ => fun
  | [d1, d2] => { results := [.lit (.bool true)], args := [d1, d2] }
  | _ => none }
def normTurnsRow : OpenClaim := { program := "ythegoeabimehhaa", sum := "d431258ff1e9ec475be4018d9a78a92fe0f9aa65691ad164d4270e1712b97c90", func := "vernier/vernierlaw23.NormTurns", spec := "normTurns", inPlace := ["math/bits.Add64", "math/bits.Sub64"], unfollowed := true, recurses := true, apart := false }
def NormTurnsSaid : Prop := normTurnsRow.holds Try.pinned (OpenSpec.ofChange normTurnsSpec)

/-- ITS FALSE NEIGHBOUR: 'it returns false'. Refute it at one input. -/
def normTurnsWrong : ChangeSpec := { name := "normTurns", fn := fun _ => fun
  | [d1, d2] => { results := [.lit (.bool false)], args := [d1, d2] }
  | _ => none }
def NormTurnsWrongFalsely : Prop := normTurnsRow.holds Try.pinned (OpenSpec.ofChange normTurnsWrong)

/-- 'vernierlaw23.NormLess': WHATEVER THE INPUT: true; the input reads as it did. -/
def normLessSpec : ChangeSpec := { name := "normLess", fn := fun _ => fun
  | [d] => { results := [.lit (.bool true)], args := [d] }
  | _ => none }
def normLessRow : OpenClaim := { program := "ythegoeabimehhaa", sum := "d431258ff1e9ec475be4018d9a78a92fe0f9aa65691ad164d4270e1712b97c90", func := "vernier/vernierlaw23.NormLess", spec := "normLess", inPlace := ["math/bits.Add64", "math/bits.Sub64"], unfollowed := true, recurses := true, apart := false }
def NormLessSaid : Prop := normLessRow.holds Try.pinned (OpenSpec.ofChange normLessSpec)

/-- ITS FALSE NEIGHBOUR: 'it returns false'. Refute it at one input. -/
def normLessWrong : ChangeSpec := { name := "normLess", fn := fun _ => fun
  | [d] => { results := [.lit (.bool false)], args := [d] }
  | _ => none }
def NormLessWrongFalsely : Prop := normLessRow.holds Try.pinned (OpenSpec.ofChange normLessWrong)

/-- 'vernierlaw20.MatParts': WHATEVER THE INPUT: true; the input reads as it did. -/
def matPartsSpec : ChangeSpec := { name := "matParts", fn := fun _ => fun
  | [d1, d2, d3, d4, d5, d6] => { results := [.lit (.bool true)], args := [d1, d2, d3, d4, d5, d6] }
  | _ => none }
def matPartsRow : OpenClaim := { program := "ythegoeabimehhaa", sum := "d431258ff1e9ec475be4018d9a78a92fe0f9aa65691ad164d4270e1712b97c90", func := "vernier/vernierlaw20.MatParts", spec := "matParts", inPlace := ["math/bits.Add64", "math/bits.Sub64"], unfollowed := true, recurses := true, apart := false }
def MatPartsSaid : Prop := matPartsRow.holds Try.pinned (OpenSpec.ofChange matPartsSpec)

/-- ITS FALSE NEIGHBOUR: 'it returns false'. Refute it at one input. -/
def matPartsWrong : ChangeSpec := { name := "matParts", fn := fun _ => fun
  | [d1, d2, d3, d4, d5, d6] => { results := [.lit (.bool false)], args := [d1, d2, d3, d4, d5, d6] }
  | _ => none }
def MatPartsWrongFalsely : Prop := matPartsRow.holds Try.pinned (OpenSpec.ofChange matPartsWrong)

/- THE SECOND FORM. 'bulk': how many values and letters a reading holds, each counted each time it is reached (what is shared counts as often as it is met; a slice's spare places count too). A statement '..UptoSaid' is the law's where the arguments, and the package variables that the reading takes, are together of bulk at most 1048576: NARROWER than '..Said'. Prove '..Said' where nothing that the law and all that it calls make is longer than what came in: it says more and counts as full. Else prove '..UptoSaid'. A law counts once. -/
mutual
def uptoBulk {H : Type} : DataW H → Nat
  | .lit (.string bytes) => bytes.length + 1
  | .lit _ => 1
  | .nil => 1
  | .ptr d => uptoBulk d + 1
  | .slice elems spare => uptoBulkAll elems + uptoBulkAll spare + 1
  | .agg parts => uptoBulkAll parts + 1
  | .iface _ d => uptoBulk d + 1
  | .map entries => uptoBulkEntries entries + 1
  | .held _ => 1
def uptoBulkAll {H : Type} : List (DataW H) → Nat
  | [] => 0
  | d :: r => uptoBulk d + uptoBulkAll r
def uptoBulkEntries {H : Type} : List (Lit × DataW H) → Nat
  | [] => 0
  | x :: r => uptoBulkEntry x + uptoBulkEntries r
def uptoBulkEntry {H : Type} : Lit × DataW H → Nat
  | (.string bytes, d) => bytes.length + uptoBulk d + 1
  | (_, d) => uptoBulk d + 1
 end
def uptoSmall : (H : Type) → List (DataW H) → Bool := fun _ ds => decide (uptoBulkAll ds ≤ 1048576)
def OpenSpec.upto (s : _root_.Go.ChangeSpec) : _root_.Go.OpenSpec := { _root_.Go.OpenSpec.ofChange s with cond := some uptoSmall }

/-- 'vernierlaw23.NormTurns', WHERE WHAT IT READS IS OF BULK AT MOST 1048576: true; the input reads as it did. -/
def normTurnsUptoRow : OpenClaim := { program := "ythegoeabimehhaa", sum := "d431258ff1e9ec475be4018d9a78a92fe0f9aa65691ad164d4270e1712b97c90", func := "vernier/vernierlaw23.NormTurns", spec := "normTurns", inPlace := ["math/bits.Add64", "math/bits.Sub64"], unfollowed := true, recurses := true, apart := false, narrowed := true }
def NormTurnsUptoSaid : Prop := normTurnsUptoRow.holds Try.pinned (OpenSpec.upto normTurnsSpec)

/-- 'vernierlaw23.NormLess', WHERE WHAT IT READS IS OF BULK AT MOST 1048576: true; the input reads as it did. -/
def normLessUptoRow : OpenClaim := { program := "ythegoeabimehhaa", sum := "d431258ff1e9ec475be4018d9a78a92fe0f9aa65691ad164d4270e1712b97c90", func := "vernier/vernierlaw23.NormLess", spec := "normLess", inPlace := ["math/bits.Add64", "math/bits.Sub64"], unfollowed := true, recurses := true, apart := false, narrowed := true }
def NormLessUptoSaid : Prop := normLessUptoRow.holds Try.pinned (OpenSpec.upto normLessSpec)

/-- 'vernierlaw20.MatParts', WHERE WHAT IT READS IS OF BULK AT MOST 1048576: true; the input reads as it did. -/
def matPartsUptoRow : OpenClaim := { program := "ythegoeabimehhaa", sum := "d431258ff1e9ec475be4018d9a78a92fe0f9aa65691ad164d4270e1712b97c90", func := "vernier/vernierlaw20.MatParts", spec := "matParts", inPlace := ["math/bits.Add64", "math/bits.Sub64"], unfollowed := true, recurses := true, apart := false, narrowed := true }
def MatPartsUptoSaid : Prop := matPartsUptoRow.holds Try.pinned (OpenSpec.upto matPartsSpec)

end Rows
end Go.Proofs.Ythegoeabimehhaa
