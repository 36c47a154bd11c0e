/- The methods of an arena that nobody made (nil, or all zero), each with its contract. No condition. -/
import Derived.Test.YtceghmceoliplaaProg
import Derived.Below
import Derived.Deep.Draws
import Derived.Deep.AppendLies
import Derived.Maps.AppendAt
import Derived.OwnWalk
import Derived.Laws.BytesArg
import Derived.Laws.MakeOwn
import Derived.Laws.OwnMore
import Derived.Deep.OwnRows
import Derived.Tactics
import Derived.Lib.ConvBytes
import Derived.Laws.Slices
import Derived.WalkKit
import Derived.KernelRfl
import Derived.RowKit3
import Derived.Deep.LoopGhost
import Derived.Deep.QuietTactic
import Derived.BigQuiet
import Derived.WideLaws
import Derived.Deep.DeepCutAuto
import Derived.Deep.CutBlock
import Derived.Deep.RegionHeld3
import Derived.Laws.Rows
import Derived.Lib.AppendStr
import Derived.ArgAppend
import Derived.Laws.IdiomCopy
import Derived.OrdersHeld
import Derived.Laws.BitsLemmas
import Derived.RowKit
import Derived.Test.YtceghmceoliplaaWWords
import Derived.Test.YtceghmceoliplaaWLast
import Derived.Test.YtceghmceoliplaaWTab
import Derived.Test.YtceghmceoliplaaWFour
import Derived.Test.YtceghmceoliplaaWQPut
import Derived.Test.YtceghmceoliplaaWApart
import Derived.Test.YtceghmceoliplaaWArr
import Derived.Test.YtceghmceoliplaaWZeros
import Derived.Test.YtceghmceoliplaaWFoot
import Derived.Test.YtceghmceoliplaaWKept
import Derived.Test.YtceghmceoliplaaWShare
import Derived.Test.YtceghmceoliplaaWN
import Derived.Test.YtceghmceoliplaaWFootNe
import Derived.Test.YtceghmceoliplaaWAt
import Derived.Test.YtceghmceoliplaaWEqStruct
import Derived.Test.YtceghmceoliplaaWRepsOne
import Derived.Test.YtceghmceoliplaaWInv
import Derived.Test.YtceghmceoliplaaWInvWords
import Derived.Test.YtceghmceoliplaaWGuard
import Derived.Test.YtceghmceoliplaaWNEv
import Derived.Test.YtceghmceoliplaaWMore
import Derived.Test.YtceghmceoliplaaArV
namespace Go.Proofs.Ytceghmceoliplaa.Ar
open Go.RowKit Go.Proofs.YtceghmceoliplaaW.PrintWords Go.Proofs.YtceghmceoliplaaW.PrintLast Go.Proofs.YtceghmceoliplaaW.PrintMore
attribute [local go_sem] max2_int min2_int max_two min_two max_three min_three max_four min_four
set_option linter.unusedVariables false
set_option linter.unusedSimpArgs false
def DeadAr (w : World) (q : Option Addr) : Prop := q = none ∨ ∃ (p : Nat) (a b c : Value), q = some ⟨p, 0, none⟩ ∧ w.heap[p]? = some (.cells #[a, b, c, .bool false] 57 (0, 0))
theorem DeadAr.below {w w' : World} {q : Option Addr} (h : DeadAr w q) (k : Below w.heap.size w w') : DeadAr w' q := by
  rcases h with rfl | ⟨p, a, b, c, rfl, h⟩
  · exact .inl rfl
  · exact .inr ⟨p, a, b, c, rfl, blk_below h k⟩
theorem dead_is {w : World} {q : Option Addr} (h : DeadAr w q) : Calls Try.prog 48 #[.pointer q] w fun e w' => e = .returned (.bool false) ∧ w' = w := by
  rcases h with rfl | ⟨p, a, b, c, rfl, h⟩
  · exact ar_is_nil w
  · exact ar_is h
theorem dead_mark {w : World} {q : Option Addr} (h : DeadAr w q) : Calls Try.prog 30 #[.pointer q] w fun e w' => e = .returned (.int .i64 0) ∧ w' = w := by
  have HD := Aside0.mk h
  clear h
  go_enter Try.func30, Try.ntmps30
  go_wp2_with (first
    | (go_at_call 48; refine (dead_is HD.out).mono ?_; rintro e w1 ⟨rfl, rfl⟩))
  go_ret
  exact ⟨rfl, rfl⟩
theorem dead_high {w : World} {q : Option Addr} (h : DeadAr w q) : Calls Try.prog 31 #[.pointer q] w fun e w' => e = .returned (.int .i64 0) ∧ w' = w := by
  have HD := Aside0.mk h
  clear h
  go_enter Try.func31, Try.ntmps31
  go_wp2_with (first
    | (go_at_call 48; refine (dead_is HD.out).mono ?_; rintro e w1 ⟨rfl, rfl⟩))
  go_ret
  exact ⟨rfl, rfl⟩
theorem dead_left {w : World} {q : Option Addr} (h : DeadAr w q) : Calls Try.prog 32 #[.pointer q] w fun e w' => e = .returned (.int .i64 0) ∧ w' = w := by
  have HD := Aside0.mk h
  clear h
  go_enter Try.func32, Try.ntmps32
  go_wp2_with (first
    | (go_at_call 48; refine (dead_is HD.out).mono ?_; rintro e w1 ⟨rfl, rfl⟩))
  go_ret
  exact ⟨rfl, rfl⟩
theorem dead_words {w : World} {q : Option Addr} (h : DeadAr w q) : Calls Try.prog 29 #[.pointer q] w fun e w' => e = .returned (.slice none 0 0) ∧ w' = w := by
  have HD := Aside0.mk h
  clear h
  go_enter Try.func29, Try.ntmps29
  go_wp2_with (first
    | (go_at_call 48; refine (dead_is HD.out).mono ?_; rintro e w1 ⟨rfl, rfl⟩))
  go_ret
  exact ⟨rfl, rfl⟩
theorem dead_release {w : World} {q : Option Addr} {m : Int} (h : DeadAr w q) : Calls Try.prog 28 #[.pointer q, .int .i64 m] w fun e w' => e = .returned (.int .i64 9) ∧ w' = w := by
  have HD := Aside0.mk h
  clear h
  go_enter Try.func28, Try.ntmps28
  go_wp2_with (first
    | (go_at_call 48; refine (dead_is HD.out).mono ?_; rintro e w1 ⟨rfl, rfl⟩))
  go_ret
  exact ⟨rfl, rfl⟩
set_option maxHeartbeats 8000000 in
set_option maxRecDepth 100000 in
theorem dead_take {w : World} {q : Option Addr} {m n : Int} (h : DeadAr w q) : Calls Try.prog 26 #[.pointer q, .int .i64 m, .int .i64 n] w fun e w' => e = .returned (.tuple #[.agg #[.int .i64 0, .int .i64 0, .int .i64 0, .int .i64 0], .int .i64 9]) ∧ Below w.heap.size w w' := by
  have HD := Aside0.mk (h.below ((Below.refl _ w).alloc (Nat.le_refl _) (.cells #[.int .i64 0, .int .i64 0, .int .i64 0, .int .i64 0] 48)))
  clear h
  go_enter Try.func26, Try.ntmps26
  go_wp2_with (first
    | (go_at_call 48; refine (dead_is HD.out).mono ?_; rintro e w1 ⟨rfl, rfl⟩))
  refine bodyPost_ret (results_ct rfl _ _ w.heap.size 48 #[.int .i64 0, .int .i64 0, .int .i64 0, .int .i64 0] (0, 0) _ rfl (heap_alloc_new w _) Try.underlying48 rfl (by kernel_rfl)) rfl ?_
  exact ⟨rfl, (Below.refl _ w).alloc (Nat.le_refl _) _⟩
set_option maxHeartbeats 8000000 in
set_option maxRecDepth 100000 in
theorem dead_lend {w : World} {q : Option Addr} {r c s o : Int} (h : DeadAr w q) : Calls Try.prog 27 #[.pointer q, .agg #[.int .i64 r, .int .i64 c, .int .i64 s, .int .i64 o]] w fun e w' => e = .returned (.slice none 0 0) ∧ Below w.heap.size w w' := by
  have HD := Aside0.mk (h.below ((Below.refl _ w).alloc (Nat.le_refl _) (.cells #[.int .i64 r, .int .i64 c, .int .i64 s, .int .i64 o] 48)))
  have HB1 := Aside0.mk ((Below.refl _ w).alloc (Nat.le_refl _) (.cells #[.int .i64 r, .int .i64 c, .int .i64 s, .int .i64 o] 48))
  clear h
  go_enter Try.func27, Try.ntmps27
  go_wp2
  generalize w.alloc (.cells #[.int .i64 r, .int .i64 c, .int .i64 s, .int .i64 o] 48) = W1 at *
  go_quiet (first | (go_at_call 48; exact Calls.quiet_of_same (dead_is HD.out)))
  go_wp2
  go_ret
  exact ⟨rfl, pw_below_drewN HB1.out _⟩
end Go.Proofs.Ytceghmceoliplaa.Ar
