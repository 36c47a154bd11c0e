/- The methods of an arena (package arena), each with its contract over the arena's two blocks. No condition. -/
import Derived.Test.YtceghmceoliplaaProg
import Derived.Below
import Derived.Deep.Draws
import Derived.Deep.AppendLies
import Derived.Maps.AppendAt
import Derived.OwnWalk
import Derived.Laws.BytesArg
import Derived.Laws.MakeOwn
import Derived.Laws.OwnMore
import Derived.Deep.OwnRows
import Derived.Tactics
import Derived.Lib.ConvBytes
import Derived.Laws.Slices
import Derived.WalkKit
import Derived.KernelRfl
import Derived.RowKit3
import Derived.Deep.LoopGhost
import Derived.Deep.QuietTactic
import Derived.BigQuiet
import Derived.WideLaws
import Derived.Deep.DeepCutAuto
import Derived.Deep.CutBlock
import Derived.Deep.RegionHeld3
import Derived.Laws.Rows
import Derived.Lib.AppendStr
import Derived.ArgAppend
import Derived.Laws.IdiomCopy
import Derived.OrdersHeld
import Derived.Laws.BitsLemmas
import Derived.RowKit
import Derived.Test.YtceghmceoliplaaWWords
import Derived.Test.YtceghmceoliplaaWLast
import Derived.Test.YtceghmceoliplaaWTab
import Derived.Test.YtceghmceoliplaaWFour
import Derived.Test.YtceghmceoliplaaWQPut
import Derived.Test.YtceghmceoliplaaWApart
import Derived.Test.YtceghmceoliplaaWArr
import Derived.Test.YtceghmceoliplaaWZeros
import Derived.Test.YtceghmceoliplaaWFoot
import Derived.Test.YtceghmceoliplaaWKept
import Derived.Test.YtceghmceoliplaaWShare
import Derived.Test.YtceghmceoliplaaWN
import Derived.Test.YtceghmceoliplaaWFootNe
import Derived.Test.YtceghmceoliplaaWAt
import Derived.Test.YtceghmceoliplaaWEqStruct
import Derived.Test.YtceghmceoliplaaWRepsOne
import Derived.Test.YtceghmceoliplaaWInv
import Derived.Test.YtceghmceoliplaaWInvWords
import Derived.Test.YtceghmceoliplaaWGuard
import Derived.Test.YtceghmceoliplaaWNEv
import Derived.Test.YtceghmceoliplaaWMore
namespace Go.Proofs.Ytceghmceoliplaa.Ar
open Go.RowKit Go.Proofs.YtceghmceoliplaaW.PrintWords Go.Proofs.YtceghmceoliplaaW.PrintLast Go.Proofs.YtceghmceoliplaaW.PrintMore
attribute [local go_sem] max2_int min2_int max_two min_two max_three min_three max_four min_four
set_option linter.unusedVariables false
set_option linter.unusedSimpArgs false
def U64 (ws : List Int) : Array Value := (ws.map (Value.int .u64)).toArray
def ArAt (w : World) (p g : Nat) (ws : List Int) (used high : Int) : Prop :=
  w.heap[p]? = some (.cells #[.slice (some ⟨g, 0, none⟩) ws.length ws.length, .int .i64 used, .int .i64 high, .bool true] 57 (0, 0)) ∧ w.heap[g]? = some (.cells (U64 ws) 40 (0, 0))
theorem ar_is {w : World} {p : Nat} {a b c : Value} {m : Bool} (h : w.heap[p]? = some (.cells #[a, b, c, .bool m] 57 (0, 0))) :
    Calls Try.prog 48 #[.pointer (some ⟨p, 0, none⟩)] w fun e w' => e = .returned (.bool m) ∧ w' = w := by
  have hc3 : w.cell? ⟨p, 3, none⟩ = some (.bool m) := (blk_cell h 3).trans rfl
  clear h
  go_enter Try.func48, Try.ntmps48
  go_wp2
  go_ret
  exact ⟨rfl, rfl⟩
theorem ar_is_nil (w : World) :
    Calls Try.prog 48 #[.pointer none] w fun e w' => e = .returned (.bool false) ∧ w' = w := by
  go_enter Try.func48, Try.ntmps48
  go_wp2
  go_ret
  exact ⟨rfl, rfl⟩
theorem ar_mark {w : World} {p g : Nat} {ws : List Int} {used high : Int} (h : ArAt w p g ws used high) :
    Calls Try.prog 30 #[.pointer (some ⟨p, 0, none⟩)] w fun e w' => e = .returned (.int .i64 used) ∧ w' = w := by
  have HI := Aside0.mk (ar_is h.1)
  have hc1 : w.cell? ⟨p, 1, none⟩ = some (.int .i64 used) := (blk_cell h.1 1).trans rfl
  clear h
  go_enter Try.func30, Try.ntmps30
  go_wp2_with (((with_reducible refine gate_callee (f := 48) rfl ?_); refine goesL_ (some 4) rfl rfl Try.func48 (by kernel_rfl) rfl #[.pointer (some ⟨p, 0, none⟩)] rfl (by (try simp only [List.map_toArray, List.map_cons, List.map_nil]); first | done | rfl) ?_; (refine HI.out.mono ?_); rintro e w1 ⟨rfl, rfl⟩; refine ⟨_, rfl, ?_⟩))
  go_ret
  exact ⟨rfl, rfl⟩
theorem ar_high {w : World} {p g : Nat} {ws : List Int} {used high : Int} (h : ArAt w p g ws used high) :
    Calls Try.prog 31 #[.pointer (some ⟨p, 0, none⟩)] w fun e w' => e = .returned (.int .i64 high) ∧ w' = w := by
  have HI := Aside0.mk (ar_is h.1)
  have hc1 : w.cell? ⟨p, 2, none⟩ = some (.int .i64 high) := (blk_cell h.1 2).trans rfl
  clear h
  go_enter Try.func31, Try.ntmps31
  go_wp2_with (((with_reducible refine gate_callee (f := 48) rfl ?_); refine goesL_ (some 4) rfl rfl Try.func48 (by kernel_rfl) rfl #[.pointer (some ⟨p, 0, none⟩)] rfl (by (try simp only [List.map_toArray, List.map_cons, List.map_nil]); first | done | rfl) ?_; (refine HI.out.mono ?_); rintro e w1 ⟨rfl, rfl⟩; refine ⟨_, rfl, ?_⟩))
  go_ret
  exact ⟨rfl, rfl⟩
theorem ar_left {w : World} {p g : Nat} {ws : List Int} {used high : Int} (h : ArAt w p g ws used high) :
    Calls Try.prog 32 #[.pointer (some ⟨p, 0, none⟩)] w fun e w' => e = .returned (.int .i64 (wrap64 (ws.length - used))) ∧ Drawn0 w w' := by
  have HI := Aside0.mk (ar_is h.1)
  have hc1 : w.cell? ⟨p, 1, none⟩ = some (.int .i64 used) := (blk_cell h.1 1).trans rfl
  have hc0 : w.cell? ⟨p, 0, none⟩ = some (.slice (some ⟨g, 0, none⟩) ws.length ws.length) := (blk_cell h.1 0).trans rfl
  clear h
  go_enter Try.func32, Try.ntmps32
  go_wp2_with (((with_reducible refine gate_callee (f := 48) rfl ?_); refine goesL_ (some 4) rfl rfl Try.func48 (by kernel_rfl) rfl #[.pointer (some ⟨p, 0, none⟩)] rfl (by (try simp only [List.map_toArray, List.map_cons, List.map_nil]); first | done | rfl) ?_; (refine HI.out.mono ?_); rintro e w1 ⟨rfl, rfl⟩; refine ⟨_, rfl, ?_⟩))
  go_region
  go_wp2
  go_ret
  exact ⟨rfl, by repeat (first | exact Drawn0.refl _ | apply Drawn0.step)⟩
theorem ar_release_out {w : World} {p g : Nat} {ws : List Int} {used high m : Int} (h : ArAt w p g ws used high) (hm : m < 0 ∨ m > used) :
    Calls Try.prog 28 #[.pointer (some ⟨p, 0, none⟩), .int .i64 m] w fun e w' => e = .returned (.int .i64 4) ∧ w' = w := by
  have HI := Aside0.mk (ar_is h.1)
  have hc1 : w.cell? ⟨p, 1, none⟩ = some (.int .i64 used) := (blk_cell h.1 1).trans rfl
  clear h
  by_cases h0 : m < 0
  · have b0 : decide (m < 0) = true := decide_eq_true h0
    clear h0 hm
    go_enter Try.func28, Try.ntmps28
    go_wp2_with (((with_reducible refine gate_callee (f := 48) rfl ?_); refine goesL_ (some 7) rfl rfl Try.func48 (by kernel_rfl) rfl #[.pointer (some ⟨p, 0, none⟩)] rfl (by (try simp only [List.map_toArray, List.map_cons, List.map_nil]); first | done | rfl) ?_; (refine HI.out.mono ?_); rintro e w1 ⟨rfl, rfl⟩; refine ⟨_, rfl, ?_⟩))
    go_ret
    exact ⟨rfl, rfl⟩
  · have b0 : decide (m < 0) = false := decide_eq_false h0
    have b1 : decide (m > used) = true := decide_eq_true (by omega)
    clear h0 hm
    go_enter Try.func28, Try.ntmps28
    go_wp2_with (((with_reducible refine gate_callee (f := 48) rfl ?_); refine goesL_ (some 7) rfl rfl Try.func48 (by kernel_rfl) rfl #[.pointer (some ⟨p, 0, none⟩)] rfl (by (try simp only [List.map_toArray, List.map_cons, List.map_nil]); first | done | rfl) ?_; (refine HI.out.mono ?_); rintro e w1 ⟨rfl, rfl⟩; refine ⟨_, rfl, ?_⟩))
    go_ret
    exact ⟨rfl, rfl⟩
theorem ar_release {w : World} {p g : Nat} {ws : List Int} {used high m : Int} (h : ArAt w p g ws used high) (h0 : 0 ≤ m) (h1 : m ≤ used) :
    Calls Try.prog 28 #[.pointer (some ⟨p, 0, none⟩), .int .i64 m] w fun e w' => e = .returned (.int .i64 0) ∧ w' = w.setCell ⟨p, 1, none⟩ (.int .i64 m) := by
  have HI := Aside0.mk (ar_is h.1)
  have hc1 : w.cell? ⟨p, 1, none⟩ = some (.int .i64 used) := (blk_cell h.1 1).trans rfl
  have hf1 := blk_frozen h.1 1
  have b0 : decide (m < 0) = false := decide_eq_false (by omega)
  have b1 : decide (m > used) = false := decide_eq_false (by omega)
  clear h h0 h1
  go_enter Try.func28, Try.ntmps28
  go_wp2_with (((with_reducible refine gate_callee (f := 48) rfl ?_); refine goesL_ (some 7) rfl rfl Try.func48 (by kernel_rfl) rfl #[.pointer (some ⟨p, 0, none⟩)] rfl (by (try simp only [List.map_toArray, List.map_cons, List.map_nil]); first | done | rfl) ?_; (refine HI.out.mono ?_); rintro e w1 ⟨rfl, rfl⟩; refine ⟨_, rfl, ?_⟩))
  go_ret
  exact ⟨rfl, rfl⟩
theorem madeCells_u64 (N : Nat) : madeCells #[Value.int .u64 0] N = U64 (List.replicate N 0) := by
  apply Array.ext
  · simp [madeCells, U64]
  · intro i h1 h2
    simp [madeCells, U64, Nat.mod_one]
theorem ar_made (w : World) (N : Nat) : ArAt ((w.alloc (.cells (madeCells #[.int .u64 0] N) 40)).alloc (.cells #[.slice (some ⟨w.heap.size, 0, none⟩) N N, .int .i64 0, .int .i64 0, .bool true] 57)) (w.heap.size + 1) w.heap.size (List.replicate N 0) 0 0 := by
  constructor
  · rw [List.length_replicate]
    exact heap_alloc2_new w _ _
  · rw [madeCells_u64]
    exact heap_alloc2_old w _ _
set_option maxHeartbeats 8000000 in
set_option maxRecDepth 100000 in
theorem ar_new (w : World) (words : Int) (N : Nat) (hN : words < 0 ∧ N = 0 ∨ words = N ∧ N ≤ 1048576) :
    Calls Try.prog 25 #[.int .i64 words] w fun e w' => e = .returned (.pointer (some ⟨w.heap.size + 1, 0, none⟩)) ∧ ArAt w' (w.heap.size + 1) w.heap.size (List.replicate N 0) 0 0 ∧ Below w.heap.size w w' := by
  rcases hN with ⟨h0, rfl⟩ | ⟨rfl, h1⟩
  · have hmk := print_make (P := Try.prog) 34 40 .u64 8 Try.underlying34 (by kernel_rfl) (by omega) 0 (by omega)
    have hmk0 : ∀ W : World, (Instr.makeSlice 34 (.int .i64 0) (.int .i64 0)).run Try.prog W = .ok (.slice (some ⟨W.heap.size, 0, none⟩) 0 0) (W.alloc (.cells (madeCells #[.int .u64 0] 0) 40)) := hmk
    have b0 : (words < 0) = True := eq_true h0
    clear h0 hmk
    go_enter Try.func25, Try.ntmps25
    go_wp2
    go_ret
    exact ⟨rfl, ar_made w 0, ((Below.refl _ w).alloc (Nat.le_refl _) _).alloc (by simp) _⟩
  · have hmk := print_make (P := Try.prog) 34 40 .u64 8 Try.underlying34 (by kernel_rfl) (by omega) N (by omega)
    have b0 : ((N : Int) < 0) = False := eq_false (by omega)
    have b1 : ((1048576 : Int) < (N : Int)) = False := eq_false (by omega)
    clear h1
    go_enter Try.func25, Try.ntmps25
    go_wp2
    go_ret
    exact ⟨rfl, ar_made w N, ((Below.refl _ w).alloc (Nat.le_refl _) _).alloc (by simp) _⟩
end Go.Proofs.Ytceghmceoliplaa.Ar
