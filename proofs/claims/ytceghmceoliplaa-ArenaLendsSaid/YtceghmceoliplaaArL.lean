/- Lending words of an arena. No condition. -/
import Derived.Test.YtceghmceoliplaaProg
import Derived.Below
import Derived.Deep.Draws
import Derived.Deep.AppendLies
import Derived.Maps.AppendAt
import Derived.OwnWalk
import Derived.Laws.BytesArg
import Derived.Laws.MakeOwn
import Derived.Laws.OwnMore
import Derived.Deep.OwnRows
import Derived.Tactics
import Derived.Lib.ConvBytes
import Derived.Laws.Slices
import Derived.WalkKit
import Derived.KernelRfl
import Derived.RowKit3
import Derived.Deep.LoopGhost
import Derived.Deep.QuietTactic
import Derived.BigQuiet
import Derived.WideLaws
import Derived.Deep.DeepCutAuto
import Derived.Deep.CutBlock
import Derived.Deep.RegionHeld3
import Derived.Laws.Rows
import Derived.Lib.AppendStr
import Derived.ArgAppend
import Derived.Laws.IdiomCopy
import Derived.OrdersHeld
import Derived.Laws.BitsLemmas
import Derived.RowKit
import Derived.Test.YtceghmceoliplaaWWords
import Derived.Test.YtceghmceoliplaaWLast
import Derived.Test.YtceghmceoliplaaWTab
import Derived.Test.YtceghmceoliplaaWFour
import Derived.Test.YtceghmceoliplaaWQPut
import Derived.Test.YtceghmceoliplaaWApart
import Derived.Test.YtceghmceoliplaaWArr
import Derived.Test.YtceghmceoliplaaWZeros
import Derived.Test.YtceghmceoliplaaWFoot
import Derived.Test.YtceghmceoliplaaWKept
import Derived.Test.YtceghmceoliplaaWShare
import Derived.Test.YtceghmceoliplaaWN
import Derived.Test.YtceghmceoliplaaWFootNe
import Derived.Test.YtceghmceoliplaaWAt
import Derived.Test.YtceghmceoliplaaWEqStruct
import Derived.Test.YtceghmceoliplaaWRepsOne
import Derived.Test.YtceghmceoliplaaWInv
import Derived.Test.YtceghmceoliplaaWInvWords
import Derived.Test.YtceghmceoliplaaWGuard
import Derived.Test.YtceghmceoliplaaWNEv
import Derived.Test.YtceghmceoliplaaWMore
import Derived.Test.YtceghmceoliplaaArT
namespace Go.Proofs.Ytceghmceoliplaa.Ar
open Go.RowKit Go.Proofs.YtceghmceoliplaaW.PrintWords Go.Proofs.YtceghmceoliplaaW.PrintLast Go.Proofs.YtceghmceoliplaaW.PrintMore
attribute [local go_sem] max2_int min2_int max_two min_two max_three min_three max_four min_four
set_option linter.unusedVariables false
set_option linter.unusedSimpArgs false
set_option maxHeartbeats 8000000 in
set_option maxRecDepth 100000 in
theorem ar_lend {w : World} {p g : Nat} {ws : List Int} {used high r c s o : Int} (h : ArAt w p g ws used high) (hr : 0 ≤ r ∧ r ≤ 64) (hc : 0 ≤ c ∧ c ≤ 64) (hs : s = c) (ho : 0 ≤ o ∧ o ≤ used) (hb : r * c ≤ used - o) (hu : used ≤ ws.length) (hl : ws.length ≤ 1048576) :
    Calls Try.prog 27 #[.pointer (some ⟨p, 0, none⟩), .agg #[.int .i64 r, .int .i64 c, .int .i64 s, .int .i64 o]] w fun e w' => (∃ F : Nat, e = .returned (.slice (some ⟨g, F, none⟩) (r * c).toNat (r * c).toNat) ∧ (0 < (r * c).toNat → F = o.toNat)) ∧ Below w.heap.size w w' := by
  subst hs
  have HA1 := Aside0.mk (h.below ((Below.refl _ w).alloc (Nat.le_refl _) (.cells #[.int .i64 r, .int .i64 s, .int .i64 s, .int .i64 o] 48)))
  have BK1 := Aside0.mk (blk_new w (.cells #[.int .i64 r, .int .i64 s, .int .i64 s, .int .i64 o] 48))
  have HB1 := Aside0.mk ((Below.refl _ w).alloc (Nat.le_refl _) (.cells #[.int .i64 r, .int .i64 s, .int .i64 s, .int .i64 o] 48))
  have b0 : decide (r < 0) = false := decide_eq_false (by omega)
  have b1 : decide (r > 64) = false := decide_eq_false (by omega)
  have b2 : decide (s < 0) = false := decide_eq_false (by omega)
  have b3 : decide (s > 64) = false := decide_eq_false (by omega)
  have b4 : decide (o < 0) = false := decide_eq_false (by omega)
  have b5 : decide (o > used) = false := decide_eq_false (by omega)
  have b6 : (s != s) = false := by simp
  obtain ⟨x, hx⟩ : ∃ x, r * s = x := ⟨_, rfl⟩
  have hx0 : 0 ≤ x := by rw [← hx]; exact Int.mul_nonneg hr.1 hc.1
  rw [hx] at hb
  have w1 : wrap64 (r * s) = x := by rw [hx]; unfold wrap64; omega
  obtain ⟨y, hy⟩ : ∃ y, o + x = y := ⟨_, rfl⟩
  have w2 : wrap64 (o + x) = y := by unfold wrap64; omega
  obtain ⟨u, hu'⟩ : ∃ u, used - o = u := ⟨_, rfl⟩
  have w3 : wrap64 (used - o) = u := by unfold wrap64; omega
  have b7 : decide (x > u) = false := decide_eq_false (by omega)
  have HX := Aside0.mk hx
  have HB := Aside0.mk (show 0 ≤ o ∧ 0 ≤ x ∧ o + x = y ∧ y ≤ ws.length ∧ ws.length ≤ 1048576 from ⟨ho.1, hx0, hy, by omega, hl⟩)
  obtain ⟨F, X, HF, hsl⟩ : ∃ F X : Nat, Aside0 (X = x.toNat ∧ (0 < X → F = o.toNat)) ∧ ∀ W : World, (Instr.slice 34 (.slice (some ⟨g, 0, none⟩) ws.length ws.length) (some (.int .i64 o)) (some (.int .i64 y)) (some (.int .i64 y))).run Try.prog W = .ok (.slice (some ⟨g, F, none⟩) X X) W := by
    obtain ⟨i0, hi, hz⟩ := Option.map_eq_some_iff.1 info40
    simp only [Prod.mk.injEq] at hz
    have hb := HB.out
    refine ⟨_, _, ⟨?_⟩, fun W => dst_lhm Try.underlying34 hi hz.2.1 g ws.length ws.length o y (by omega) (by omega) (by omega) W⟩
    refine ⟨by omega, fun h => ?_⟩
    rw [if_neg (by omega)]
  clear h hr hc ho hb hu hl hx hx0 hy hu'
  go_enter Try.func27, Try.ntmps27
  go_wp2
  generalize w.alloc (.cells #[.int .i64 r, .int .i64 s, .int .i64 s, .int .i64 o] 48) = W1 at *
  have k0 : W1.cell? ⟨w.heap.size, 0, none⟩ = some (.int .i64 r) := (blk_cell BK1.out 0).trans rfl
  have k1 : W1.cell? ⟨w.heap.size, 1, none⟩ = some (.int .i64 s) := (blk_cell BK1.out 1).trans rfl
  have k2 : W1.cell? ⟨w.heap.size, 2, none⟩ = some (.int .i64 s) := (blk_cell BK1.out 2).trans rfl
  have k3 : W1.cell? ⟨w.heap.size, 3, none⟩ = some (.int .i64 o) := (blk_cell BK1.out 3).trans rfl
  have d0 : W1.cell? ⟨p, 0, none⟩ = some (.slice (some ⟨g, 0, none⟩) ws.length ws.length) := (blk_cell HA1.out.1 0).trans rfl
  have d1 : W1.cell? ⟨p, 1, none⟩ = some (.int .i64 used) := (blk_cell HA1.out.1 1).trans rfl
  go_quiet (first | (go_at_call 48; exact Calls.quiet_of_same (ar_is HA1.out.1)))
  go_wp2
  go_quiet (fail)
  go_wp2
  go_quiet (fail)
  go_wp2
  go_ret
  refine ⟨⟨F, ?_, ?_⟩, pw_below_drewN (pw_below_drewN (pw_below_drewN HB1.out _) _) _⟩
  · rw [HX.out, ← HF.out.1]; rfl
  · rw [HX.out, ← HF.out.1]; exact HF.out.2
set_option maxHeartbeats 8000000 in
set_option maxRecDepth 100000 in
theorem ar_lend_bad {w : World} {p g : Nat} {ws : List Int} {used high r c s o : Int} (h : ArAt w p g ws used high) (hbad : r < 0 ∨ r > 64 ∨ c < 0 ∨ c > 64 ∨ s ≠ c ∨ o < 0 ∨ o > used) :
    Calls Try.prog 27 #[.pointer (some ⟨p, 0, none⟩), .agg #[.int .i64 r, .int .i64 c, .int .i64 s, .int .i64 o]] w fun e w' => e = .returned (.slice none 0 0) ∧ Below w.heap.size w w' := by
  have HA1 := Aside0.mk (h.below ((Below.refl _ w).alloc (Nat.le_refl _) (.cells #[.int .i64 r, .int .i64 c, .int .i64 s, .int .i64 o] 48)))
  have BK1 := Aside0.mk (blk_new w (.cells #[.int .i64 r, .int .i64 c, .int .i64 s, .int .i64 o] 48))
  have HB1 := Aside0.mk ((Below.refl _ w).alloc (Nat.le_refl _) (.cells #[.int .i64 r, .int .i64 c, .int .i64 s, .int .i64 o] 48))
  have hh : (decide (r < 0) = true) ∨ (decide (r < 0) = false ∧ decide (r > 64) = true) ∨ (decide (r < 0) = false ∧ decide (r > 64) = false ∧ decide (c < 0) = true) ∨ (decide (r < 0) = false ∧ decide (r > 64) = false ∧ decide (c < 0) = false ∧ decide (c > 64) = true) ∨ (decide (r < 0) = false ∧ decide (r > 64) = false ∧ decide (c < 0) = false ∧ decide (c > 64) = false ∧ (s != c) = true) ∨ (decide (r < 0) = false ∧ decide (r > 64) = false ∧ decide (c < 0) = false ∧ decide (c > 64) = false ∧ (s != c) = false ∧ decide (o < 0) = true) ∨ (decide (r < 0) = false ∧ decide (r > 64) = false ∧ decide (c < 0) = false ∧ decide (c > 64) = false ∧ (s != c) = false ∧ decide (o < 0) = false ∧ decide (o > used) = true) := by
    simp only [decide_eq_true_eq, decide_eq_false_iff_not, bne_iff_ne, bne_eq_false_iff_eq, ne_eq]; omega
  clear h hbad
  rcases hh with b0 | ⟨b0, b1⟩ | ⟨b0, b1, b2⟩ | ⟨b0, b1, b2, b3⟩ | ⟨b0, b1, b2, b3, b4⟩ | ⟨b0, b1, b2, b3, b4, b5⟩ | ⟨b0, b1, b2, b3, b4, b5, b6⟩
  all_goals
    go_enter Try.func27, Try.ntmps27
    go_wp2
    generalize w.alloc (.cells #[.int .i64 r, .int .i64 c, .int .i64 s, .int .i64 o] 48) = W1 at *
    have k0 : W1.cell? ⟨w.heap.size, 0, none⟩ = some (.int .i64 r) := (blk_cell BK1.out 0).trans rfl
    have k1 : W1.cell? ⟨w.heap.size, 1, none⟩ = some (.int .i64 c) := (blk_cell BK1.out 1).trans rfl
    have k2 : W1.cell? ⟨w.heap.size, 2, none⟩ = some (.int .i64 s) := (blk_cell BK1.out 2).trans rfl
    have k3 : W1.cell? ⟨w.heap.size, 3, none⟩ = some (.int .i64 o) := (blk_cell BK1.out 3).trans rfl
    have d0 : W1.cell? ⟨p, 0, none⟩ = some (.slice (some ⟨g, 0, none⟩) ws.length ws.length) := (blk_cell HA1.out.1 0).trans rfl
    have d1 : W1.cell? ⟨p, 1, none⟩ = some (.int .i64 used) := (blk_cell HA1.out.1 1).trans rfl
    go_quiet (first | (go_at_call 48; exact Calls.quiet_of_same (ar_is HA1.out.1)))
    go_wp2
    go_ret
    exact ⟨rfl, pw_below_drewN HB1.out _⟩
set_option maxHeartbeats 8000000 in
set_option maxRecDepth 100000 in
theorem ar_lend_big {w : World} {p g : Nat} {ws : List Int} {used high r c s o : Int} (h : ArAt w p g ws used high) (hr : 0 ≤ r ∧ r ≤ 64) (hc : 0 ≤ c ∧ c ≤ 64) (hs : s = c) (ho : 0 ≤ o ∧ o ≤ used) (hb : r * c > used - o) (hu : used ≤ ws.length) (hl : ws.length ≤ 1048576) :
    Calls Try.prog 27 #[.pointer (some ⟨p, 0, none⟩), .agg #[.int .i64 r, .int .i64 c, .int .i64 s, .int .i64 o]] w fun e w' => e = .returned (.slice none 0 0) ∧ Below w.heap.size w w' := by
  have HA1 := Aside0.mk (h.below ((Below.refl _ w).alloc (Nat.le_refl _) (.cells #[.int .i64 r, .int .i64 c, .int .i64 s, .int .i64 o] 48)))
  have BK1 := Aside0.mk (blk_new w (.cells #[.int .i64 r, .int .i64 c, .int .i64 s, .int .i64 o] 48))
  have HB1 := Aside0.mk ((Below.refl _ w).alloc (Nat.le_refl _) (.cells #[.int .i64 r, .int .i64 c, .int .i64 s, .int .i64 o] 48))
  have b0 : decide (r < 0) = false := decide_eq_false (by omega)
  have b1 : decide (r > 64) = false := decide_eq_false (by omega)
  have b2 : decide (c < 0) = false := decide_eq_false (by omega)
  have b3 : decide (c > 64) = false := decide_eq_false (by omega)
  have b4 : decide (o < 0) = false := decide_eq_false (by omega)
  have b5 : decide (o > used) = false := decide_eq_false (by omega)
  have b6 : (s != c) = false := by subst hs; simp
  have hx1 : r * c ≤ 4096 := by
    have := Int.mul_le_mul hr.2 hc.2 hc.1 (by omega : (0 : Int) ≤ 64); omega
  obtain ⟨x, hx⟩ : ∃ x, r * c = x := ⟨_, rfl⟩
  have hx0 : 0 ≤ x := by rw [← hx]; exact Int.mul_nonneg hr.1 hc.1
  rw [hx] at hb hx1
  have w1 : wrap64 (r * c) = x := by rw [hx]; unfold wrap64; omega
  obtain ⟨u, hu'⟩ : ∃ u, used - o = u := ⟨_, rfl⟩
  have w3 : wrap64 (used - o) = u := by unfold wrap64; omega
  have b7 : decide (x > u) = true := decide_eq_true (by omega)
  clear h hr hc hs ho hb hu hl hx hx0 hu' hx1
  go_enter Try.func27, Try.ntmps27
  go_wp2
  generalize w.alloc (.cells #[.int .i64 r, .int .i64 c, .int .i64 s, .int .i64 o] 48) = W1 at *
  have k0 : W1.cell? ⟨w.heap.size, 0, none⟩ = some (.int .i64 r) := (blk_cell BK1.out 0).trans rfl
  have k1 : W1.cell? ⟨w.heap.size, 1, none⟩ = some (.int .i64 c) := (blk_cell BK1.out 1).trans rfl
  have k2 : W1.cell? ⟨w.heap.size, 2, none⟩ = some (.int .i64 s) := (blk_cell BK1.out 2).trans rfl
  have k3 : W1.cell? ⟨w.heap.size, 3, none⟩ = some (.int .i64 o) := (blk_cell BK1.out 3).trans rfl
  have d0 : W1.cell? ⟨p, 0, none⟩ = some (.slice (some ⟨g, 0, none⟩) ws.length ws.length) := (blk_cell HA1.out.1 0).trans rfl
  have d1 : W1.cell? ⟨p, 1, none⟩ = some (.int .i64 used) := (blk_cell HA1.out.1 1).trans rfl
  go_quiet (first | (go_at_call 48; exact Calls.quiet_of_same (ar_is HA1.out.1)))
  go_wp2
  go_quiet (fail)
  go_wp2
  go_ret
  exact ⟨rfl, pw_below_drewN (pw_below_drewN HB1.out _) _⟩
end Go.Proofs.Ytceghmceoliplaa.Ar
