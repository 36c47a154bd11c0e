/-
  No cell of these rows narrows 'for every input' (looked for: loops, veiled, ifaces, maps, wideKeys, modest, calm, conditions, laid).
  DERIVED. THE GIVEN ROWS OF THIS SEAT. 10 by the template 'for every input the law returns true; each argument reads behind the call as it read before'; 0 by the template 'total and deterministic' (their statements: YtklkebbdjppnkaaTotals.lean).
  GIVEN WITH THE SEED: the statements are not yours to turn. If you find one false, say at which input.
  Laid BY PROGRAM, IN A SANDBOX (cutbox-rows.mjs): the forced cells as the released guide's own fill.sh prints them over the translation 94a85d6e1f870603… (all of the seat's roots in one cut). By AI agents, Wed Nov 11 2026. No macro, syntax, notation, axiom, sorry.
-/
import Derived.Test.YtklkebbdjppnkaaChecked
import GoSem.Claim
import GoSem.ClaimJoined
import GoSem.ClaimMapViews
import Derived.JoinedTies
import Derived.KernelRfl
namespace Go.Proofs.Ytklkebbdjppnkaa
/- THE CELL 'sum', in the pinned program and in every row, IS THE sha256 OF THE DUMP (.gsa) THAT YtklkebbdjppnkaaProg.lean LOADS. Nothing in Lean hashes anything: it is a label: what it is worth is what the hold of that sum in a sandbox is worth. -/
noncomputable def Try.pinned : Pinned := { name := "ytklkebbdjppnkaa", sum := "94a85d6e1f8706036db9d83db8688dc6b8e45f04124122516a55800597aa7b28", checked := Try.checked }
namespace Rows
def none {H : Type} : Left H := { results := [], args := [] }

/-- 'vernierlaw06.PartsTells': WHATEVER THE INPUT: true; the input reads as it did. -/
def partsTellsSpec : ChangeSpec := { name := "partsTells", fn := fun _ => fun
  | [d1, d2] => { results := [.lit (.bool true)], args := [d1, d2] }
  | _ => none }
def partsTellsRow : OpenClaim := { program := "ytklkebbdjppnkaa", sum := "94a85d6e1f8706036db9d83db8688dc6b8e45f04124122516a55800597aa7b28", func := "vernier/vernierlaw06.PartsTells", spec := "partsTells", apart := false }
def PartsTellsSaid : Prop := partsTellsRow.holds Try.pinned (OpenSpec.ofChange partsTellsSpec)

/-- ITS FALSE NEIGHBOUR: 'it returns false'. Refute it at one input. -/
def partsTellsWrong : ChangeSpec := { name := "partsTells", fn := fun _ => fun
  | [d1, d2] => { results := [.lit (.bool false)], args := [d1, d2] }
  | _ => none }
def PartsTellsWrongFalsely : Prop := partsTellsRow.holds Try.pinned (OpenSpec.ofChange partsTellsWrong)

/-- 'vernierlaw06.PartsRounds': WHATEVER THE INPUT: true; the input reads as it did. -/
def partsRoundsSpec : ChangeSpec := { name := "partsRounds", fn := fun _ => fun
  | [d1, d2, d3, d4, d5, d6] => { results := [.lit (.bool true)], args := [d1, d2, d3, d4, d5, d6] }
  | _ => none }
def partsRoundsRow : OpenClaim := { program := "ytklkebbdjppnkaa", sum := "94a85d6e1f8706036db9d83db8688dc6b8e45f04124122516a55800597aa7b28", func := "vernier/vernierlaw06.PartsRounds", spec := "partsRounds", apart := false }
def PartsRoundsSaid : Prop := partsRoundsRow.holds Try.pinned (OpenSpec.ofChange partsRoundsSpec)

/-- ITS FALSE NEIGHBOUR: 'it returns false'. Refute it at one input. -/
def partsRoundsWrong : ChangeSpec := { name := "partsRounds", fn := fun _ => fun
  | [d1, d2, d3, d4, d5, d6] => { results := [.lit (.bool false)], args := [d1, d2, d3, d4, d5, d6] }
  | _ => none }
def PartsRoundsWrongFalsely : Prop := partsRoundsRow.holds Try.pinned (OpenSpec.ofChange partsRoundsWrong)

/-- 'vernierlaw06.PartsModes': WHATEVER THE INPUT: true; the input reads as it did. -/
def partsModesSpec : ChangeSpec := { name := "partsModes", fn := fun _ => fun
  | [d1, d2, d3] => { results := [.lit (.bool true)], args := [d1, d2, d3] }
  | _ => none }
def partsModesRow : OpenClaim := { program := "ytklkebbdjppnkaa", sum := "94a85d6e1f8706036db9d83db8688dc6b8e45f04124122516a55800597aa7b28", func := "vernier/vernierlaw06.PartsModes", spec := "partsModes", apart := false }
def PartsModesSaid : Prop := partsModesRow.holds Try.pinned (OpenSpec.ofChange partsModesSpec)

/-- ITS FALSE NEIGHBOUR: 'it returns false'. Refute it at one input. -/
def partsModesWrong : ChangeSpec := { name := "partsModes", fn := fun _ => fun
  | [d1, d2, d3] => { results := [.lit (.bool false)], args := [d1, d2, d3] }
  | _ => none }
def PartsModesWrongFalsely : Prop := partsModesRow.holds Try.pinned (OpenSpec.ofChange partsModesWrong)

/-- 'vernierlaw06.PartsBack': WHATEVER THE INPUT: true; the input reads as it did. -/
def partsBackSpec : ChangeSpec := { name := "partsBack", fn := fun _ => fun
  | [d1, d2, d3, d4] => { results := [.lit (.bool true)], args := [d1, d2, d3, d4] }
  | _ => none }
def partsBackRow : OpenClaim := { program := "ytklkebbdjppnkaa", sum := "94a85d6e1f8706036db9d83db8688dc6b8e45f04124122516a55800597aa7b28", func := "vernier/vernierlaw06.PartsBack", spec := "partsBack", apart := false }
def PartsBackSaid : Prop := partsBackRow.holds Try.pinned (OpenSpec.ofChange partsBackSpec)

/-- ITS FALSE NEIGHBOUR: 'it returns false'. Refute it at one input. -/
def partsBackWrong : ChangeSpec := { name := "partsBack", fn := fun _ => fun
  | [d1, d2, d3, d4] => { results := [.lit (.bool false)], args := [d1, d2, d3, d4] }
  | _ => none }
def PartsBackWrongFalsely : Prop := partsBackRow.holds Try.pinned (OpenSpec.ofChange partsBackWrong)

/-- 'vernierlaw10.FsqrtTells': WHATEVER THE INPUT: true; the input reads as it did. -/
def fsqrtTellsSpec : ChangeSpec := { name := "fsqrtTells", fn := fun _ => fun
  | [d1, d2] => { results := [.lit (.bool true)], args := [d1, d2] }
  | _ => none }
def fsqrtTellsRow : OpenClaim := { program := "ytklkebbdjppnkaa", sum := "94a85d6e1f8706036db9d83db8688dc6b8e45f04124122516a55800597aa7b28", func := "vernier/vernierlaw10.FsqrtTells", spec := "fsqrtTells", apart := false }
def FsqrtTellsSaid : Prop := fsqrtTellsRow.holds Try.pinned (OpenSpec.ofChange fsqrtTellsSpec)

/-- ITS FALSE NEIGHBOUR: 'it returns false'. Refute it at one input. -/
def fsqrtTellsWrong : ChangeSpec := { name := "fsqrtTells", fn := fun _ => fun
  | [d1, d2] => { results := [.lit (.bool false)], args := [d1, d2] }
  | _ => none }
def FsqrtTellsWrongFalsely : Prop := fsqrtTellsRow.holds Try.pinned (OpenSpec.ofChange fsqrtTellsWrong)

/-- 'vernierlaw10.FsqrtBack': WHATEVER THE INPUT: true; the input reads as it did. -/
def fsqrtBackSpec : ChangeSpec := { name := "fsqrtBack", fn := fun _ => fun
  | [d1, d2] => { results := [.lit (.bool true)], args := [d1, d2] }
  | _ => none }
def fsqrtBackRow : OpenClaim := { program := "ytklkebbdjppnkaa", sum := "94a85d6e1f8706036db9d83db8688dc6b8e45f04124122516a55800597aa7b28", func := "vernier/vernierlaw10.FsqrtBack", spec := "fsqrtBack", apart := false }
def FsqrtBackSaid : Prop := fsqrtBackRow.holds Try.pinned (OpenSpec.ofChange fsqrtBackSpec)

/-- ITS FALSE NEIGHBOUR: 'it returns false'. Refute it at one input. -/
def fsqrtBackWrong : ChangeSpec := { name := "fsqrtBack", fn := fun _ => fun
  | [d1, d2] => { results := [.lit (.bool false)], args := [d1, d2] }
  | _ => none }
def FsqrtBackWrongFalsely : Prop := fsqrtBackRow.holds Try.pinned (OpenSpec.ofChange fsqrtBackWrong)

/-- 'vernierlaw10.FsqrtNear': WHATEVER THE INPUT: true; the input reads as it did. -/
def fsqrtNearSpec : ChangeSpec := { name := "fsqrtNear", fn := fun _ => fun
  | [d] => { results := [.lit (.bool true)], args := [d] }
  | _ => none }
def fsqrtNearRow : OpenClaim := { program := "ytklkebbdjppnkaa", sum := "94a85d6e1f8706036db9d83db8688dc6b8e45f04124122516a55800597aa7b28", func := "vernier/vernierlaw10.FsqrtNear", spec := "fsqrtNear", apart := false }
def FsqrtNearSaid : Prop := fsqrtNearRow.holds Try.pinned (OpenSpec.ofChange fsqrtNearSpec)

/-- ITS FALSE NEIGHBOUR: 'it returns false'. Refute it at one input. -/
def fsqrtNearWrong : ChangeSpec := { name := "fsqrtNear", fn := fun _ => fun
  | [d] => { results := [.lit (.bool false)], args := [d] }
  | _ => none }
def FsqrtNearWrongFalsely : Prop := fsqrtNearRow.holds Try.pinned (OpenSpec.ofChange fsqrtNearWrong)

/-- 'vernierlaw09.FdivSelf': WHATEVER THE INPUT: true; the input reads as it did. -/
def fdivSelfSpec : ChangeSpec := { name := "fdivSelf", fn := fun _ => fun
  | [d1, d2] => { results := [.lit (.bool true)], args := [d1, d2] }
  | _ => none }
def fdivSelfRow : OpenClaim := { program := "ytklkebbdjppnkaa", sum := "94a85d6e1f8706036db9d83db8688dc6b8e45f04124122516a55800597aa7b28", func := "vernier/vernierlaw09.FdivSelf", spec := "fdivSelf", named := ["math/bits.divideError", "math/bits.overflowError"], apart := false }
def FdivSelfSaid : Prop := fdivSelfRow.holds Try.pinned (OpenSpec.ofChange fdivSelfSpec)

/-- ITS FALSE NEIGHBOUR: 'it returns false'. Refute it at one input. -/
def fdivSelfWrong : ChangeSpec := { name := "fdivSelf", fn := fun _ => fun
  | [d1, d2] => { results := [.lit (.bool false)], args := [d1, d2] }
  | _ => none }
def FdivSelfWrongFalsely : Prop := fdivSelfRow.holds Try.pinned (OpenSpec.ofChange fdivSelfWrong)

/-- 'vernierlaw09.FdivBack': WHATEVER THE INPUT: true; the input reads as it did. -/
def fdivBackSpec : ChangeSpec := { name := "fdivBack", fn := fun _ => fun
  | [d1, d2] => { results := [.lit (.bool true)], args := [d1, d2] }
  | _ => none }
def fdivBackRow : OpenClaim := { program := "ytklkebbdjppnkaa", sum := "94a85d6e1f8706036db9d83db8688dc6b8e45f04124122516a55800597aa7b28", func := "vernier/vernierlaw09.FdivBack", spec := "fdivBack", named := ["math/bits.divideError", "math/bits.overflowError"], apart := false }
def FdivBackSaid : Prop := fdivBackRow.holds Try.pinned (OpenSpec.ofChange fdivBackSpec)

/-- ITS FALSE NEIGHBOUR: 'it returns false'. Refute it at one input. -/
def fdivBackWrong : ChangeSpec := { name := "fdivBack", fn := fun _ => fun
  | [d1, d2] => { results := [.lit (.bool false)], args := [d1, d2] }
  | _ => none }
def FdivBackWrongFalsely : Prop := fdivBackRow.holds Try.pinned (OpenSpec.ofChange fdivBackWrong)

/-- 'vernierlaw09.FdivTells': WHATEVER THE INPUT: true; the input reads as it did. -/
def fdivTellsSpec : ChangeSpec := { name := "fdivTells", fn := fun _ => fun
  | [d1, d2, d3] => { results := [.lit (.bool true)], args := [d1, d2, d3] }
  | _ => none }
def fdivTellsRow : OpenClaim := { program := "ytklkebbdjppnkaa", sum := "94a85d6e1f8706036db9d83db8688dc6b8e45f04124122516a55800597aa7b28", func := "vernier/vernierlaw09.FdivTells", spec := "fdivTells", named := ["math/bits.divideError", "math/bits.overflowError"], apart := false }
def FdivTellsSaid : Prop := fdivTellsRow.holds Try.pinned (OpenSpec.ofChange fdivTellsSpec)

/-- ITS FALSE NEIGHBOUR: 'it returns false'. Refute it at one input. -/
def fdivTellsWrong : ChangeSpec := { name := "fdivTells", fn := fun _ => fun
  | [d1, d2, d3] => { results := [.lit (.bool false)], args := [d1, d2, d3] }
  | _ => none }
def FdivTellsWrongFalsely : Prop := fdivTellsRow.holds Try.pinned (OpenSpec.ofChange fdivTellsWrong)

/- THE SECOND FORM. 'bulk': how many values and letters a reading holds, each counted each time it is reached (what is shared counts as often as it is met; a slice's spare places count too). A statement '..UptoSaid' is the law's where the arguments, and the package variables that the reading takes, are together of bulk at most 1048576: NARROWER than '..Said'. Prove '..Said' where nothing that the law and all that it calls make is longer than what came in: it says more and counts as full. Else prove '..UptoSaid'. A law counts once. -/
mutual
def uptoBulk {H : Type} : DataW H → Nat
  | .lit (.string bytes) => bytes.length + 1
  | .lit _ => 1
  | .nil => 1
  | .ptr d => uptoBulk d + 1
  | .slice elems spare => uptoBulkAll elems + uptoBulkAll spare + 1
  | .agg parts => uptoBulkAll parts + 1
  | .iface _ d => uptoBulk d + 1
  | .map entries => uptoBulkEntries entries + 1
  | .held _ => 1
def uptoBulkAll {H : Type} : List (DataW H) → Nat
  | [] => 0
  | d :: r => uptoBulk d + uptoBulkAll r
def uptoBulkEntries {H : Type} : List (Lit × DataW H) → Nat
  | [] => 0
  | x :: r => uptoBulkEntry x + uptoBulkEntries r
def uptoBulkEntry {H : Type} : Lit × DataW H → Nat
  | (.string bytes, d) => bytes.length + uptoBulk d + 1
  | (_, d) => uptoBulk d + 1
 end
def uptoSmall : (H : Type) → List (DataW H) → Bool := fun _ ds => decide (uptoBulkAll ds ≤ 1048576)
def OpenSpec.upto (s : _root_.Go.ChangeSpec) : _root_.Go.OpenSpec := { _root_.Go.OpenSpec.ofChange s with cond := some uptoSmall }

/-- 'vernierlaw06.PartsTells', WHERE WHAT IT READS IS OF BULK AT MOST 1048576: true; the input reads as it did. -/
def partsTellsUptoRow : OpenClaim := { program := "ytklkebbdjppnkaa", sum := "94a85d6e1f8706036db9d83db8688dc6b8e45f04124122516a55800597aa7b28", func := "vernier/vernierlaw06.PartsTells", spec := "partsTells", apart := false, narrowed := true }
def PartsTellsUptoSaid : Prop := partsTellsUptoRow.holds Try.pinned (OpenSpec.upto partsTellsSpec)

/-- 'vernierlaw06.PartsRounds', WHERE WHAT IT READS IS OF BULK AT MOST 1048576: true; the input reads as it did. -/
def partsRoundsUptoRow : OpenClaim := { program := "ytklkebbdjppnkaa", sum := "94a85d6e1f8706036db9d83db8688dc6b8e45f04124122516a55800597aa7b28", func := "vernier/vernierlaw06.PartsRounds", spec := "partsRounds", apart := false, narrowed := true }
def PartsRoundsUptoSaid : Prop := partsRoundsUptoRow.holds Try.pinned (OpenSpec.upto partsRoundsSpec)

/-- 'vernierlaw06.PartsModes', WHERE WHAT IT READS IS OF BULK AT MOST 1048576: true; the input reads as it did. -/
def partsModesUptoRow : OpenClaim := { program := "ytklkebbdjppnkaa", sum := "94a85d6e1f8706036db9d83db8688dc6b8e45f04124122516a55800597aa7b28", func := "vernier/vernierlaw06.PartsModes", spec := "partsModes", apart := false, narrowed := true }
def PartsModesUptoSaid : Prop := partsModesUptoRow.holds Try.pinned (OpenSpec.upto partsModesSpec)

/-- 'vernierlaw06.PartsBack', WHERE WHAT IT READS IS OF BULK AT MOST 1048576: true; the input reads as it did. -/
def partsBackUptoRow : OpenClaim := { program := "ytklkebbdjppnkaa", sum := "94a85d6e1f8706036db9d83db8688dc6b8e45f04124122516a55800597aa7b28", func := "vernier/vernierlaw06.PartsBack", spec := "partsBack", apart := false, narrowed := true }
def PartsBackUptoSaid : Prop := partsBackUptoRow.holds Try.pinned (OpenSpec.upto partsBackSpec)

/-- 'vernierlaw10.FsqrtTells', WHERE WHAT IT READS IS OF BULK AT MOST 1048576: true; the input reads as it did. -/
def fsqrtTellsUptoRow : OpenClaim := { program := "ytklkebbdjppnkaa", sum := "94a85d6e1f8706036db9d83db8688dc6b8e45f04124122516a55800597aa7b28", func := "vernier/vernierlaw10.FsqrtTells", spec := "fsqrtTells", apart := false, narrowed := true }
def FsqrtTellsUptoSaid : Prop := fsqrtTellsUptoRow.holds Try.pinned (OpenSpec.upto fsqrtTellsSpec)

/-- 'vernierlaw10.FsqrtBack', WHERE WHAT IT READS IS OF BULK AT MOST 1048576: true; the input reads as it did. -/
def fsqrtBackUptoRow : OpenClaim := { program := "ytklkebbdjppnkaa", sum := "94a85d6e1f8706036db9d83db8688dc6b8e45f04124122516a55800597aa7b28", func := "vernier/vernierlaw10.FsqrtBack", spec := "fsqrtBack", apart := false, narrowed := true }
def FsqrtBackUptoSaid : Prop := fsqrtBackUptoRow.holds Try.pinned (OpenSpec.upto fsqrtBackSpec)

/-- 'vernierlaw10.FsqrtNear', WHERE WHAT IT READS IS OF BULK AT MOST 1048576: true; the input reads as it did. -/
def fsqrtNearUptoRow : OpenClaim := { program := "ytklkebbdjppnkaa", sum := "94a85d6e1f8706036db9d83db8688dc6b8e45f04124122516a55800597aa7b28", func := "vernier/vernierlaw10.FsqrtNear", spec := "fsqrtNear", apart := false, narrowed := true }
def FsqrtNearUptoSaid : Prop := fsqrtNearUptoRow.holds Try.pinned (OpenSpec.upto fsqrtNearSpec)

/-- 'vernierlaw09.FdivSelf', WHERE WHAT IT READS IS OF BULK AT MOST 1048576: true; the input reads as it did. -/
def fdivSelfUptoRow : OpenClaim := { program := "ytklkebbdjppnkaa", sum := "94a85d6e1f8706036db9d83db8688dc6b8e45f04124122516a55800597aa7b28", func := "vernier/vernierlaw09.FdivSelf", spec := "fdivSelf", named := ["math/bits.divideError", "math/bits.overflowError"], apart := false, narrowed := true }
def FdivSelfUptoSaid : Prop := fdivSelfUptoRow.holds Try.pinned (OpenSpec.upto fdivSelfSpec)

/-- 'vernierlaw09.FdivBack', WHERE WHAT IT READS IS OF BULK AT MOST 1048576: true; the input reads as it did. -/
def fdivBackUptoRow : OpenClaim := { program := "ytklkebbdjppnkaa", sum := "94a85d6e1f8706036db9d83db8688dc6b8e45f04124122516a55800597aa7b28", func := "vernier/vernierlaw09.FdivBack", spec := "fdivBack", named := ["math/bits.divideError", "math/bits.overflowError"], apart := false, narrowed := true }
def FdivBackUptoSaid : Prop := fdivBackUptoRow.holds Try.pinned (OpenSpec.upto fdivBackSpec)

/-- 'vernierlaw09.FdivTells', WHERE WHAT IT READS IS OF BULK AT MOST 1048576: true; the input reads as it did. -/
def fdivTellsUptoRow : OpenClaim := { program := "ytklkebbdjppnkaa", sum := "94a85d6e1f8706036db9d83db8688dc6b8e45f04124122516a55800597aa7b28", func := "vernier/vernierlaw09.FdivTells", spec := "fdivTells", named := ["math/bits.divideError", "math/bits.overflowError"], apart := false, narrowed := true }
def FdivTellsUptoSaid : Prop := fdivTellsUptoRow.holds Try.pinned (OpenSpec.upto fdivTellsSpec)

end Rows
end Go.Proofs.Ytklkebbdjppnkaa
