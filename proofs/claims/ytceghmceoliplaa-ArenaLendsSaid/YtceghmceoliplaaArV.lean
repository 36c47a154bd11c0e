/- The law's own test 'alive', and the walk of ArenaRuns. No condition. -/
import Derived.Test.YtceghmceoliplaaProg
import Derived.Below
import Derived.Deep.Draws
import Derived.Deep.AppendLies
import Derived.Maps.AppendAt
import Derived.OwnWalk
import Derived.Laws.BytesArg
import Derived.Laws.MakeOwn
import Derived.Laws.OwnMore
import Derived.Deep.OwnRows
import Derived.Tactics
import Derived.Lib.ConvBytes
import Derived.Laws.Slices
import Derived.WalkKit
import Derived.KernelRfl
import Derived.RowKit3
import Derived.Deep.LoopGhost
import Derived.Deep.QuietTactic
import Derived.BigQuiet
import Derived.WideLaws
import Derived.Deep.DeepCutAuto
import Derived.Deep.CutBlock
import Derived.Deep.RegionHeld3
import Derived.Laws.Rows
import Derived.Lib.AppendStr
import Derived.ArgAppend
import Derived.Laws.IdiomCopy
import Derived.OrdersHeld
import Derived.Laws.BitsLemmas
import Derived.RowKit
import Derived.Test.YtceghmceoliplaaWWords
import Derived.Test.YtceghmceoliplaaWLast
import Derived.Test.YtceghmceoliplaaWTab
import Derived.Test.YtceghmceoliplaaWFour
import Derived.Test.YtceghmceoliplaaWQPut
import Derived.Test.YtceghmceoliplaaWApart
import Derived.Test.YtceghmceoliplaaWArr
import Derived.Test.YtceghmceoliplaaWZeros
import Derived.Test.YtceghmceoliplaaWFoot
import Derived.Test.YtceghmceoliplaaWKept
import Derived.Test.YtceghmceoliplaaWShare
import Derived.Test.YtceghmceoliplaaWN
import Derived.Test.YtceghmceoliplaaWFootNe
import Derived.Test.YtceghmceoliplaaWAt
import Derived.Test.YtceghmceoliplaaWEqStruct
import Derived.Test.YtceghmceoliplaaWRepsOne
import Derived.Test.YtceghmceoliplaaWInv
import Derived.Test.YtceghmceoliplaaWInvWords
import Derived.Test.YtceghmceoliplaaWGuard
import Derived.Test.YtceghmceoliplaaWNEv
import Derived.Test.YtceghmceoliplaaWMore
import Derived.Test.YtceghmceoliplaaArL
namespace Go.Proofs.Ytceghmceoliplaa.Ar
open Go.RowKit Go.Proofs.YtceghmceoliplaaW.PrintWords Go.Proofs.YtceghmceoliplaaW.PrintLast Go.Proofs.YtceghmceoliplaaW.PrintMore
attribute [local go_sem] max2_int min2_int max_two min_two max_three min_three max_four min_four
set_option linter.unusedVariables false
set_option linter.unusedSimpArgs false
theorem ar_left_is {w : World} {p g : Nat} {ws : List Int} {used high v : Int} (h : ArAt w p g ws used high) (hv : wrap64 (ws.length - used) = v) :
    Calls Try.prog 32 #[.pointer (some ⟨p, 0, none⟩)] w fun e w' => e = .returned (.int .i64 v) ∧ Drawn0 w w' := by
  subst hv; exact ar_left h
set_option maxHeartbeats 8000000 in
set_option maxRecDepth 100000 in
theorem ar_alive (w : World) : Calls Try.prog 24 #[] w fun e w' => e = .returned (.bool true) ∧ Below w.heap.size w w' := by
  go_enter Try.func24, Try.ntmps24
  go_wp2_with (first
    | (go_at_call 25; refine (ar_new _ 4 4 (by omega)).mono ?_; rintro e w1 ⟨rfl, h1, hb1⟩; obtain ⟨p, hp⟩ : ∃ p, p = w.heap.size + 1 := ⟨_, rfl⟩; obtain ⟨g, hg⟩ : ∃ g, g = w.heap.size := ⟨_, rfl⟩; rw [← hp] at h1 ⊢; have HA := Aside0.mk (hg ▸ h1); have HB1 := Aside0.mk hb1; have HP := Aside0.mk hp; have HG := Aside0.mk hg; clear h1 hb1 hp hg)
    | (go_at_call 26; refine (ar_take HA.out ⟨by omega, by omega⟩ ⟨by omega, by omega⟩ (by omega) (by simp) (by simp)).mono ?_; rintro e w2 ⟨rfl, h2, f2⟩; obtain ⟨ws2, hws2⟩ : ∃ l, l = wiped (List.replicate 4 0) (0 : Int).toNat (2 * 2 : Int).toNat := ⟨_, rfl⟩; rw [← hws2] at h2; have HL2 : Aside0 (ws2.length = 4) := ⟨by rw [hws2, wiped_len _ _ _ (by simp)]; simp⟩; have h2' : ArAt w2 p g ws2 4 4 := h2; have HA2 := Aside0.mk h2'; have HF2 := Aside0.mk f2; clear h2 f2 h2' hws2)
    | (go_at_call 32; refine (ar_left_is (v := 0) (HA2.out.below ((Below.refl _ w2).alloc (Nat.le_refl _) _)) (by rw [HL2.out]; unfold wrap64; omega)).mono ?_; rintro e w3 ⟨rfl, ⟨q, rfl⟩⟩)
    | (go_at_call 31; refine (ar_high (high := 4) (HA2.out.below (pw_below_drewN ((Below.refl _ w2).alloc (Nat.le_refl _) _) q))).mono ?_; rintro e w3 ⟨rfl, rfl⟩))
  go_ret
  exact ⟨rfl, (HB1.out.trans (HF2.out.outer (by rw [HP.out]; omega) (by rw [HG.out]; omega) HB1.out.size)).trans (pw_below_drewN ((Below.refl _ w2).alloc (by exact (HB1.out.trans (HF2.out.outer (by rw [HP.out]; omega) (by rw [HG.out]; omega) HB1.out.size)).size) _) _)⟩
theorem below_three {B : Nat} {w W W2 W3 : World} (h : Below B w W) (hB : B ≤ W.heap.size) (k : Below W.heap.size W W2) (l : Below W2.heap.size W2 W3) : Below B w W3 := below_then (below_then h hB k) (Nat.le_trans hB k.size) l
theorem ar_takeX {w : World} {p g : Nat} {ws : List Int} {used high m n y z : Int} {X : Nat} (h : ArAt w p g ws used high) (hm : 0 ≤ m ∧ m ≤ 64) (hn : 0 ≤ n ∧ n ≤ 64) (hu : 0 ≤ used) (hX : m * n = (X : Int)) (hy : used + (X : Int) = y) (hz : mx high y = z) (hb : y ≤ ws.length) (hl : ws.length ≤ 1048576) :
    Calls Try.prog 26 #[.pointer (some ⟨p, 0, none⟩), .int .i64 m, .int .i64 n] w fun e w' => e = .returned (.tuple #[.agg #[.int .i64 m, .int .i64 n, .int .i64 n, .int .i64 used], .int .i64 0]) ∧ ArAt w' p g (wiped ws used.toNat X) y z ∧ Fr p g w w' := by
  refine (ar_take h hm hn hu (by omega) hl).mono ?_
  rintro e w' ⟨rfl, h1, h2⟩
  rw [hX, hy, hz] at h1
  exact ⟨rfl, h1, h2⟩
theorem ar_lendX {w : World} {p g : Nat} {ws : List Int} {used high r c o : Int} {X : Nat} (h : ArAt w p g ws used high) (hr : 0 ≤ r ∧ r ≤ 64) (hc : 0 ≤ c ∧ c ≤ 64) (ho : 0 ≤ o ∧ o ≤ used) (hX : r * c = (X : Int)) (hb : (X : Int) ≤ used - o) (hu : used ≤ ws.length) (hl : ws.length ≤ 1048576) :
    Calls Try.prog 27 #[.pointer (some ⟨p, 0, none⟩), .agg #[.int .i64 r, .int .i64 c, .int .i64 c, .int .i64 o]] w fun e w' => (∃ F : Nat, e = .returned (.slice (some ⟨g, F, none⟩) X X) ∧ (0 < X → F = o.toNat)) ∧ Below w.heap.size w w' := by
  refine (ar_lend h hr hc rfl ho (by omega) hu hl).mono ?_
  rintro e w' ⟨⟨F, h1, h2⟩, h3⟩
  rw [hX] at h1 h2
  exact ⟨⟨F, h1, h2⟩, h3⟩
theorem ArAt.store {w : World} {p g : Nat} {ws : List Int} {used high : Int} (h : ArAt w p g ws used high) (i : Nat) (x : Int) : ArAt (w.setCell ⟨g, i, none⟩ (.int .u64 x)) p g (ws.set i x) used high := by
  refine ⟨?_, U64_set h.2 i x⟩
  rw [List.length_set]
  exact (Below.heap_setCell w _ _ p h.ne).trans h.1
theorem Below.box {w w' : World} {b : Nat} {o : Obj} (h : w.heap[b]? = some o) (k : Below w.heap.size w w') : w'.heap[b]? = some o := blk_below h k
end Go.Proofs.Ytceghmceoliplaa.Ar
