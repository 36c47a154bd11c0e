/-
  No cell of these rows narrows 'for every input' (looked for: loops, veiled, ifaces, maps, wideKeys, modest, calm, conditions, laid).
  DERIVED. THE GIVEN ROWS OF THIS SEAT. 9 by the template 'for every input the law returns true; each argument reads behind the call as it read before'; 0 by the template 'total and deterministic' (their statements: YtdkmmelbadcpjaaTotals.lean).
  GIVEN WITH THE SEED: the statements are not yours to turn. If you find one false, say at which input.
  Laid BY PROGRAM, IN A SANDBOX (cutbox-rows.mjs): the forced cells as the released guide's own fill.sh prints them over the translation 2bb0d23448cc8fda… (all of the seat's roots in one cut). By AI agents, Wed Nov 11 2026. No macro, syntax, notation, axiom, sorry.
-/
import Derived.Test.YtdkmmelbadcpjaaChecked
import GoSem.Claim
import GoSem.ClaimJoined
import GoSem.ClaimMapViews
import Derived.JoinedTies
import Derived.KernelRfl
namespace Go.Proofs.Ytdkmmelbadcpjaa
/- THE CELL 'sum', in the pinned program and in every row, IS THE sha256 OF THE DUMP (.gsa) THAT YtdkmmelbadcpjaaProg.lean LOADS. Nothing in Lean hashes anything: it is a label: what it is worth is what the hold of that sum in a sandbox is worth. -/
noncomputable def Try.pinned : Pinned := { name := "ytdkmmelbadcpjaa", sum := "2bb0d23448cc8fda3b020802eb08200ce7a95287b5a7073be5f4e2e9a7548fb0", checked := Try.checked }
namespace Rows
def none {H : Type} : Left H := { results := [], args := [] }

/-- 'vernierlaw16.MortonApart': WHATEVER THE INPUT: true; the input reads as it did. -/
def mortonApartSpec : ChangeSpec := { name := "mortonApart", fn := fun _ => fun
  | [d1, d2, d3, d4, d5] => { results := [.lit (.bool true)], args := [d1, d2, d3, d4, d5] }
  | _ => none }
def mortonApartRow : OpenClaim := { program := "ytdkmmelbadcpjaa", sum := "2bb0d23448cc8fda3b020802eb08200ce7a95287b5a7073be5f4e2e9a7548fb0", func := "vernier/vernierlaw16.MortonApart", spec := "mortonApart", apart := false }
def MortonApartSaid : Prop := mortonApartRow.holds Try.pinned (OpenSpec.ofChange mortonApartSpec)

/-- ITS FALSE NEIGHBOUR: 'it returns false'. Refute it at one input. -/
def mortonApartWrong : ChangeSpec := { name := "mortonApart", fn := fun _ => fun
  | [d1, d2, d3, d4, d5] => { results := [.lit (.bool false)], args := [d1, d2, d3, d4, d5] }
  | _ => none }
def MortonApartWrongFalsely : Prop := mortonApartRow.holds Try.pinned (OpenSpec.ofChange mortonApartWrong)

/-- 'vernierlaw14.ShapeTurns': WHATEVER THE INPUT: true; the input reads as it did. -/
def shapeTurnsSpec : ChangeSpec := { name := "shapeTurns", fn := fun _ => fun
  | [d] => { results := [.lit (.bool true)], args := [d] }
  | _ => none }
def shapeTurnsRow : OpenClaim := { program := "ytdkmmelbadcpjaa", sum := "2bb0d23448cc8fda3b020802eb08200ce7a95287b5a7073be5f4e2e9a7548fb0", func := "vernier/vernierlaw14.ShapeTurns", spec := "shapeTurns", apart := false }
def ShapeTurnsSaid : Prop := shapeTurnsRow.holds Try.pinned (OpenSpec.ofChange shapeTurnsSpec)

/-- ITS FALSE NEIGHBOUR: 'it returns false'. Refute it at one input. -/
def shapeTurnsWrong : ChangeSpec := { name := "shapeTurns", fn := fun _ => fun
  | [d] => { results := [.lit (.bool false)], args := [d] }
  | _ => none }
def ShapeTurnsWrongFalsely : Prop := shapeTurnsRow.holds Try.pinned (OpenSpec.ofChange shapeTurnsWrong)

/-- 'vernierlaw15.ViewParts': WHATEVER THE INPUT: true; the input reads as it did. -/
def viewPartsSpec : ChangeSpec := { name := "viewParts", fn := fun _ => fun
  | [d1, d2, d3, d4, d5, d6] => { results := [.lit (.bool true)], args := [d1, d2, d3, d4, d5, d6] }
  | _ => none }
def viewPartsRow : OpenClaim := { program := "ytdkmmelbadcpjaa", sum := "2bb0d23448cc8fda3b020802eb08200ce7a95287b5a7073be5f4e2e9a7548fb0", func := "vernier/vernierlaw15.ViewParts", spec := "viewParts", apart := false }
def ViewPartsSaid : Prop := viewPartsRow.holds Try.pinned (OpenSpec.ofChange viewPartsSpec)

/-- ITS FALSE NEIGHBOUR: 'it returns false'. Refute it at one input. -/
def viewPartsWrong : ChangeSpec := { name := "viewParts", fn := fun _ => fun
  | [d1, d2, d3, d4, d5, d6] => { results := [.lit (.bool false)], args := [d1, d2, d3, d4, d5, d6] }
  | _ => none }
def ViewPartsWrongFalsely : Prop := viewPartsRow.holds Try.pinned (OpenSpec.ofChange viewPartsWrong)

/-- 'vernierlaw16.MortonTells': WHATEVER THE INPUT: true; the input reads as it did. -/
def mortonTellsSpec : ChangeSpec := { name := "mortonTells", fn := fun _ => fun
  | [d1, d2, d3, d4, d5, d6] => { results := [.lit (.bool true)], args := [d1, d2, d3, d4, d5, d6] }
  | _ => none }
def mortonTellsRow : OpenClaim := { program := "ytdkmmelbadcpjaa", sum := "2bb0d23448cc8fda3b020802eb08200ce7a95287b5a7073be5f4e2e9a7548fb0", func := "vernier/vernierlaw16.MortonTells", spec := "mortonTells", apart := false }
def MortonTellsSaid : Prop := mortonTellsRow.holds Try.pinned (OpenSpec.ofChange mortonTellsSpec)

/-- ITS FALSE NEIGHBOUR: 'it returns false'. Refute it at one input. -/
def mortonTellsWrong : ChangeSpec := { name := "mortonTells", fn := fun _ => fun
  | [d1, d2, d3, d4, d5, d6] => { results := [.lit (.bool false)], args := [d1, d2, d3, d4, d5, d6] }
  | _ => none }
def MortonTellsWrongFalsely : Prop := mortonTellsRow.holds Try.pinned (OpenSpec.ofChange mortonTellsWrong)

/-- 'vernierlaw15.ViewTells': WHATEVER THE INPUT: true; the input reads as it did. -/
def viewTellsSpec : ChangeSpec := { name := "viewTells", fn := fun _ => fun
  | [d1, d2, d3, d4] => { results := [.lit (.bool true)], args := [d1, d2, d3, d4] }
  | _ => none }
def viewTellsRow : OpenClaim := { program := "ytdkmmelbadcpjaa", sum := "2bb0d23448cc8fda3b020802eb08200ce7a95287b5a7073be5f4e2e9a7548fb0", func := "vernier/vernierlaw15.ViewTells", spec := "viewTells", apart := false }
def ViewTellsSaid : Prop := viewTellsRow.holds Try.pinned (OpenSpec.ofChange viewTellsSpec)

/-- ITS FALSE NEIGHBOUR: 'it returns false'. Refute it at one input. -/
def viewTellsWrong : ChangeSpec := { name := "viewTells", fn := fun _ => fun
  | [d1, d2, d3, d4] => { results := [.lit (.bool false)], args := [d1, d2, d3, d4] }
  | _ => none }
def ViewTellsWrongFalsely : Prop := viewTellsRow.holds Try.pinned (OpenSpec.ofChange viewTellsWrong)

/-- 'vernierlaw15.ViewPlaces': WHATEVER THE INPUT: true; the input reads as it did. -/
def viewPlacesSpec : ChangeSpec := { name := "viewPlaces", fn := fun _ => fun
  | [d1, d2] => { results := [.lit (.bool true)], args := [d1, d2] }
  | _ => none }
def viewPlacesRow : OpenClaim := { program := "ytdkmmelbadcpjaa", sum := "2bb0d23448cc8fda3b020802eb08200ce7a95287b5a7073be5f4e2e9a7548fb0", func := "vernier/vernierlaw15.ViewPlaces", spec := "viewPlaces", apart := false }
def ViewPlacesSaid : Prop := viewPlacesRow.holds Try.pinned (OpenSpec.ofChange viewPlacesSpec)

/-- ITS FALSE NEIGHBOUR: 'it returns false'. Refute it at one input. -/
def viewPlacesWrong : ChangeSpec := { name := "viewPlaces", fn := fun _ => fun
  | [d1, d2] => { results := [.lit (.bool false)], args := [d1, d2] }
  | _ => none }
def ViewPlacesWrongFalsely : Prop := viewPlacesRow.holds Try.pinned (OpenSpec.ofChange viewPlacesWrong)

/-- 'vernierlaw16.MortonFrom': WHATEVER THE INPUT: true; the input reads as it did. -/
def mortonFromSpec : ChangeSpec := { name := "mortonFrom", fn := fun _ => fun
  | [d1, d2, d3, d4] => { results := [.lit (.bool true)], args := [d1, d2, d3, d4] }
  | _ => none }
def mortonFromRow : OpenClaim := { program := "ytdkmmelbadcpjaa", sum := "2bb0d23448cc8fda3b020802eb08200ce7a95287b5a7073be5f4e2e9a7548fb0", func := "vernier/vernierlaw16.MortonFrom", spec := "mortonFrom", apart := false }
def MortonFromSaid : Prop := mortonFromRow.holds Try.pinned (OpenSpec.ofChange mortonFromSpec)

/-- ITS FALSE NEIGHBOUR: 'it returns false'. Refute it at one input. -/
def mortonFromWrong : ChangeSpec := { name := "mortonFrom", fn := fun _ => fun
  | [d1, d2, d3, d4] => { results := [.lit (.bool false)], args := [d1, d2, d3, d4] }
  | _ => none }
def MortonFromWrongFalsely : Prop := mortonFromRow.holds Try.pinned (OpenSpec.ofChange mortonFromWrong)

/-- 'vernierlaw14.ShapeTells': WHATEVER THE INPUT: true; the input reads as it did. -/
def shapeTellsSpec : ChangeSpec := { name := "shapeTells", fn := fun _ => fun
  | [d1, d2, d3, d4] => { results := [.lit (.bool true)], args := [d1, d2, d3, d4] }
  | _ => none }
def shapeTellsRow : OpenClaim := { program := "ytdkmmelbadcpjaa", sum := "2bb0d23448cc8fda3b020802eb08200ce7a95287b5a7073be5f4e2e9a7548fb0", func := "vernier/vernierlaw14.ShapeTells", spec := "shapeTells", unfollowed := true, recurses := true, apart := false }
def ShapeTellsSaid : Prop := shapeTellsRow.holds Try.pinned (OpenSpec.ofChange shapeTellsSpec)

/-- ITS FALSE NEIGHBOUR: 'it returns false'. Refute it at one input. -/
def shapeTellsWrong : ChangeSpec := { name := "shapeTells", fn := fun _ => fun
  | [d1, d2, d3, d4] => { results := [.lit (.bool false)], args := [d1, d2, d3, d4] }
  | _ => none }
def ShapeTellsWrongFalsely : Prop := shapeTellsRow.holds Try.pinned (OpenSpec.ofChange shapeTellsWrong)

/-- 'vernierlaw16.MortonBack': WHATEVER THE INPUT: true; the input reads as it did. -/
def mortonBackSpec : ChangeSpec := { name := "mortonBack", fn := fun _ => fun
  | [d1, d2] => { results := [.lit (.bool true)], args := [d1, d2] }
  | _ => none }
def mortonBackRow : OpenClaim := { program := "ytdkmmelbadcpjaa", sum := "2bb0d23448cc8fda3b020802eb08200ce7a95287b5a7073be5f4e2e9a7548fb0", func := "vernier/vernierlaw16.MortonBack", spec := "mortonBack", apart := false }
def MortonBackSaid : Prop := mortonBackRow.holds Try.pinned (OpenSpec.ofChange mortonBackSpec)

/-- ITS FALSE NEIGHBOUR: 'it returns false'. Refute it at one input. -/
def mortonBackWrong : ChangeSpec := { name := "mortonBack", fn := fun _ => fun
  | [d1, d2] => { results := [.lit (.bool false)], args := [d1, d2] }
  | _ => none }
def MortonBackWrongFalsely : Prop := mortonBackRow.holds Try.pinned (OpenSpec.ofChange mortonBackWrong)

/- THE SECOND FORM. 'bulk': how many values and letters a reading holds, each counted each time it is reached (what is shared counts as often as it is met; a slice's spare places count too). A statement '..UptoSaid' is the law's where the arguments, and the package variables that the reading takes, are together of bulk at most 1048576: NARROWER than '..Said'. Prove '..Said' where nothing that the law and all that it calls make is longer than what came in: it says more and counts as full. Else prove '..UptoSaid'. A law counts once. -/
mutual
def uptoBulk {H : Type} : DataW H → Nat
  | .lit (.string bytes) => bytes.length + 1
  | .lit _ => 1
  | .nil => 1
  | .ptr d => uptoBulk d + 1
  | .slice elems spare => uptoBulkAll elems + uptoBulkAll spare + 1
  | .agg parts => uptoBulkAll parts + 1
  | .iface _ d => uptoBulk d + 1
  | .map entries => uptoBulkEntries entries + 1
  | .held _ => 1
def uptoBulkAll {H : Type} : List (DataW H) → Nat
  | [] => 0
  | d :: r => uptoBulk d + uptoBulkAll r
def uptoBulkEntries {H : Type} : List (Lit × DataW H) → Nat
  | [] => 0
  | x :: r => uptoBulkEntry x + uptoBulkEntries r
def uptoBulkEntry {H : Type} : Lit × DataW H → Nat
  | (.string bytes, d) => bytes.length + uptoBulk d + 1
  | (_, d) => uptoBulk d + 1
 end
def uptoSmall : (H : Type) → List (DataW H) → Bool := fun _ ds => decide (uptoBulkAll ds ≤ 1048576)
def OpenSpec.upto (s : _root_.Go.ChangeSpec) : _root_.Go.OpenSpec := { _root_.Go.OpenSpec.ofChange s with cond := some uptoSmall }

/-- 'vernierlaw16.MortonApart', WHERE WHAT IT READS IS OF BULK AT MOST 1048576: true; the input reads as it did. -/
def mortonApartUptoRow : OpenClaim := { program := "ytdkmmelbadcpjaa", sum := "2bb0d23448cc8fda3b020802eb08200ce7a95287b5a7073be5f4e2e9a7548fb0", func := "vernier/vernierlaw16.MortonApart", spec := "mortonApart", apart := false, narrowed := true }
def MortonApartUptoSaid : Prop := mortonApartUptoRow.holds Try.pinned (OpenSpec.upto mortonApartSpec)

/-- 'vernierlaw14.ShapeTurns', WHERE WHAT IT READS IS OF BULK AT MOST 1048576: true; the input reads as it did. -/
def shapeTurnsUptoRow : OpenClaim := { program := "ytdkmmelbadcpjaa", sum := "2bb0d23448cc8fda3b020802eb08200ce7a95287b5a7073be5f4e2e9a7548fb0", func := "vernier/vernierlaw14.ShapeTurns", spec := "shapeTurns", apart := false, narrowed := true }
def ShapeTurnsUptoSaid : Prop := shapeTurnsUptoRow.holds Try.pinned (OpenSpec.upto shapeTurnsSpec)

/-- 'vernierlaw15.ViewParts', WHERE WHAT IT READS IS OF BULK AT MOST 1048576: true; the input reads as it did. -/
def viewPartsUptoRow : OpenClaim := { program := "ytdkmmelbadcpjaa", sum := "2bb0d23448cc8fda3b020802eb08200ce7a95287b5a7073be5f4e2e9a7548fb0", func := "vernier/vernierlaw15.ViewParts", spec := "viewParts", apart := false, narrowed := true }
def ViewPartsUptoSaid : Prop := viewPartsUptoRow.holds Try.pinned (OpenSpec.upto viewPartsSpec)

/-- 'vernierlaw16.MortonTells', WHERE WHAT IT READS IS OF BULK AT MOST 1048576: true; the input reads as it did. -/
def mortonTellsUptoRow : OpenClaim := { program := "ytdkmmelbadcpjaa", sum := "2bb0d23448cc8fda3b020802eb08200ce7a95287b5a7073be5f4e2e9a7548fb0", func := "vernier/vernierlaw16.MortonTells", spec := "mortonTells", apart := false, narrowed := true }
def MortonTellsUptoSaid : Prop := mortonTellsUptoRow.holds Try.pinned (OpenSpec.upto mortonTellsSpec)

/-- 'vernierlaw15.ViewTells', WHERE WHAT IT READS IS OF BULK AT MOST 1048576: true; the input reads as it did. -/
def viewTellsUptoRow : OpenClaim := { program := "ytdkmmelbadcpjaa", sum := "2bb0d23448cc8fda3b020802eb08200ce7a95287b5a7073be5f4e2e9a7548fb0", func := "vernier/vernierlaw15.ViewTells", spec := "viewTells", apart := false, narrowed := true }
def ViewTellsUptoSaid : Prop := viewTellsUptoRow.holds Try.pinned (OpenSpec.upto viewTellsSpec)

/-- 'vernierlaw15.ViewPlaces', WHERE WHAT IT READS IS OF BULK AT MOST 1048576: true; the input reads as it did. -/
def viewPlacesUptoRow : OpenClaim := { program := "ytdkmmelbadcpjaa", sum := "2bb0d23448cc8fda3b020802eb08200ce7a95287b5a7073be5f4e2e9a7548fb0", func := "vernier/vernierlaw15.ViewPlaces", spec := "viewPlaces", apart := false, narrowed := true }
def ViewPlacesUptoSaid : Prop := viewPlacesUptoRow.holds Try.pinned (OpenSpec.upto viewPlacesSpec)

/-- 'vernierlaw16.MortonFrom', WHERE WHAT IT READS IS OF BULK AT MOST 1048576: true; the input reads as it did. -/
def mortonFromUptoRow : OpenClaim := { program := "ytdkmmelbadcpjaa", sum := "2bb0d23448cc8fda3b020802eb08200ce7a95287b5a7073be5f4e2e9a7548fb0", func := "vernier/vernierlaw16.MortonFrom", spec := "mortonFrom", apart := false, narrowed := true }
def MortonFromUptoSaid : Prop := mortonFromUptoRow.holds Try.pinned (OpenSpec.upto mortonFromSpec)

/-- 'vernierlaw14.ShapeTells', WHERE WHAT IT READS IS OF BULK AT MOST 1048576: true; the input reads as it did. -/
def shapeTellsUptoRow : OpenClaim := { program := "ytdkmmelbadcpjaa", sum := "2bb0d23448cc8fda3b020802eb08200ce7a95287b5a7073be5f4e2e9a7548fb0", func := "vernier/vernierlaw14.ShapeTells", spec := "shapeTells", unfollowed := true, recurses := true, apart := false, narrowed := true }
def ShapeTellsUptoSaid : Prop := shapeTellsUptoRow.holds Try.pinned (OpenSpec.upto shapeTellsSpec)

/-- 'vernierlaw16.MortonBack', WHERE WHAT IT READS IS OF BULK AT MOST 1048576: true; the input reads as it did. -/
def mortonBackUptoRow : OpenClaim := { program := "ytdkmmelbadcpjaa", sum := "2bb0d23448cc8fda3b020802eb08200ce7a95287b5a7073be5f4e2e9a7548fb0", func := "vernier/vernierlaw16.MortonBack", spec := "mortonBack", apart := false, narrowed := true }
def MortonBackUptoSaid : Prop := mortonBackUptoRow.holds Try.pinned (OpenSpec.upto mortonBackSpec)

end Rows
end Go.Proofs.Ytdkmmelbadcpjaa
