/- PivotBack: slices.Backward, and Back. -/
import Derived.Test.YtceghmceoliplaaProg
import Derived.Below
import Derived.Deep.Draws
import Derived.Deep.AppendLies
import Derived.Maps.AppendAt
import Derived.OwnWalk
import Derived.Laws.BytesArg
import Derived.Laws.MakeOwn
import Derived.Laws.OwnMore
import Derived.Deep.OwnRows
import Derived.Tactics
import Derived.Lib.ConvBytes
import Derived.Laws.Slices
import Derived.WalkKit
import Derived.KernelRfl
import Derived.RowKit3
import Derived.Deep.LoopGhost
import Derived.Deep.QuietTactic
import Derived.BigQuiet
import Derived.WideLaws
import Derived.Deep.DeepCutAuto
import Derived.Deep.CutBlock
import Derived.Deep.RegionHeld3
import Derived.Laws.Rows
import Derived.Lib.AppendStr
import Derived.ArgAppend
import Derived.Laws.IdiomCopy
import Derived.OrdersHeld
import Derived.Laws.BitsLemmas
import Derived.RowKit
import Derived.Test.YtceghmceoliplaaWWords
import Derived.Test.YtceghmceoliplaaWLast
import Derived.Test.YtceghmceoliplaaWTab
import Derived.Test.YtceghmceoliplaaWFour
import Derived.Test.YtceghmceoliplaaWQPut
import Derived.Test.YtceghmceoliplaaWApart
import Derived.Test.YtceghmceoliplaaWArr
import Derived.Test.YtceghmceoliplaaWZeros
import Derived.Test.YtceghmceoliplaaWFoot
import Derived.Test.YtceghmceoliplaaWKept
import Derived.Test.YtceghmceoliplaaWShare
import Derived.Test.YtceghmceoliplaaWN
import Derived.Test.YtceghmceoliplaaWFootNe
import Derived.Test.YtceghmceoliplaaWAt
import Derived.Test.YtceghmceoliplaaWEqStruct
import Derived.Test.YtceghmceoliplaaWRepsOne
import Derived.Test.YtceghmceoliplaaWInv
import Derived.Test.YtceghmceoliplaaWInvWords
import Derived.Test.YtceghmceoliplaaWGuard
import Derived.Test.YtceghmceoliplaaWNEv
import Derived.Test.YtceghmceoliplaaWMore
import Derived.Test.YtceghmceoliplaaPvB
import Derived.RangeFuncNested
import Derived.RangeFuncBound
import Derived.RangeFuncCalls
import Derived.RangeFuncLeaves
import Derived.RangeFuncWrites
import Derived.Shelf.Abstract
import Derived.Shelf.RegionOpen
import Derived.WalkKit
import Derived.OwnWalkIn
import Derived.TacticsInMore
import Derived.LoopNIn
import Derived.LoopIn
namespace Go.Proofs.Ytceghmceoliplaa.Pv
open Go.RowKit Go.Proofs.YtceghmceoliplaaW.PrintWords Go.Proofs.YtceghmceoliplaaW.PrintLast Go.Proofs.YtceghmceoliplaaW.PrintMore
attribute [local go_sem] max2_int min2_int max_two min_two max_three min_three max_four min_four
set_option linter.unusedVariables false
set_option linter.unusedSimpArgs false
open Go.Proofs.Ytceghmceoliplaa.PPivotBack
open Go.Shelf
attribute [local go_sem] Oper.semAt_some
/-- what has come when k rounds are over: the last one first -/
def pvUp (s : List Int) (k : Nat) : List (Nat × Int) := (List.range k).map (fun j => (s.length - 1 - j, rd s ((s.length - 1 - j : Nat) : Int)))
theorem pvUp_succ (s : List Int) (k : Nat) : pvUp s (k + 1) = pvUp s k ++ [(s.length - 1 - k, rd s ((s.length - 1 - k : Nat) : Int))] := by simp [pvUp, List.range_succ]
theorem pvUp_length (s : List Int) (k : Nat) : (pvUp s k).length = k := by simp [pvUp]
set_option maxRecDepth 100000 in
set_option maxHeartbeats 4000000 in
theorem pv_back1_in (F : Fence) (n : Nat) (hF : F.fn 62) (hro : F.round = none) (hn : 1 ≤ n) (l Bs : Nat) (A0 : Option Addr) (c0 : Nat) (s : List Int) (w0 : World) (hr : Kd.C (Kd.int .i64) w0 A0 s.length s) (hm : s.length ≤ 4611686018427387904) (Ok : Nat × Int → Prop) (hOk : ∀ q, q < s.length → Ok (q, rd s (q : Int))) (J Jx : List {x : Nat × Int // Ok x} → World → Prop)
    (hY : ∀ pre x W, J pre W → pre.length < s.length → YieldAt F (n - 1) Try.prog l #[.int .i64 (x.1.1 : Int), .int .i64 x.1.2] W fun e W' =>
      (e = .returned (.bool true) ∧ J (pre ++ [x]) W' ∧ (Below w0.heap.size W W' ∧ W'.heap[Bs]? = W.heap[Bs]?)) ∨ (e = .returned (.bool false) ∧ Jx (pre ++ [x]) W'))
    (W : World) (hW0 : Below w0.heap.size w0 W) (hBs : W.heap[Bs]? = some (.cells #[.slice A0 s.length c0] 22 (0, 0))) (h0 : J [] W) :
    CallsIn F n Try.prog 62 #[.func (.yield l) #[] #[], .pointer (some ⟨Bs, 0, none⟩)] W fun e W' => (∃ v, e = .returned v) ∧
      ((∃ ys : List {x : Nat × Int // Ok x}, ys.map (·.1) = pvUp s s.length ∧ J ys W') ∨ (∃ pre, True ∧ Jx pre W')) := by
  refine callsIn_of_wp Try.func62 rfl hF ?_ hro
  simp only [Try.ntmps62, List.size_toArray, List.length_cons, List.length_nil, Nat.reduceAdd, Nat.reduceSub, Array.replicate_succ, Array.replicate_zero, List.push_toArray, List.append_toArray, List.nil_append, List.cons_append]
  have hcell : W.cell? ⟨Bs, 0, none⟩ = some (.slice A0 s.length c0) := (blk_cell hBs 0).trans rfl
  obtain ⟨v0, hv0⟩ : ∃ x : Int, (s.length : Int) - 1 = x := ⟨_, rfl⟩
  have w1 : wrap64 ((s.length : Int) - 1) = v0 := by rw [← hv0]; unfold wrap64; omega
  gi_wp2
  gi_loopw [3] (fun i wr => ∃ (r : Nat) (v : Int), i = .int .i64 v ∧ v = (r : Int) - 1 ∧ r ≤ s.length ∧ (∃ ys : List {x : Nat × Int // Ok x}, ys.map (·.1) = pvUp s (s.length - r) ∧ J ys wr) ∧ Below w0.heap.size w0 wr ∧ wr.heap[Bs]? = some (.cells #[.slice A0 s.length c0] 22 (0, 0)))
    (fun i _ => (intOf i + 1).toNat)
  case atStart => exact ⟨s.length, v0, rfl, hv0.symm, Nat.le_refl _, ⟨[], by rw [Nat.sub_self]; rfl, h0⟩, hW0, hBs⟩
  case round =>
    obtain ⟨r, v, rfl, hv, hrl, ⟨ys, hys, hJs⟩, hnx, hbx⟩ := hrel
    have hc2 : wr.cell? ⟨Bs, 0, none⟩ = some (.slice A0 s.length c0) := (blk_cell hbx 0).trans rfl
    cases r with
    | zero =>
      have d0 : decide (v ≥ 0) = false := decide_eq_false (by omega)
      have d1 : ¬ (0 ≤ v) := by omega
      clear hv
      gi_wp2
      go_end0
      exact ⟨⟨_, rfl⟩, by exact .inl ⟨ys, hys, hJs⟩⟩
    | succ q =>
      obtain rfl : v = (q : Int) := by omega
      clear hv
      have g1 : 0 ≤ (q : Int) := Int.natCast_nonneg q
      have k1 : (q : Int) < (s.length : Int) := by omega
      obtain ⟨ad, e1, hx1⟩ := Kd.at_int hr (q : Int) g1 k1
      cases e1
      replace hx1 := (hnx.cell (World.block_lt_of_cell? w0 _ hx1)).trans hx1
      have hy1 := hx1
      rw [Int.toNat_natCast] at hy1
      have w2 : wrap64 ((q : Int) - 1) = (q : Int) - 1 := by unfold wrap64; omega
      obtain ⟨fn, tmps, assign, body, hy, hR⟩ := hY _ ⟨(q, rd s (q : Int)), hOk q (by omega)⟩ wr hJs (by have h := congrArg List.length hys; rw [List.length_map, pvUp_length] at h; omega)
      dsimp only at hy
      gi_wp2
      refine hR.mono ?_
      rintro e W3 (⟨rfl, hJ3, hk3, hb3⟩ | ⟨rfl, hJx3⟩)
      · gi_wp2
        go_roundw
        case rel =>
          refine ⟨q, (q : Int) - 1, by first | rfl | (rw [w2]), rfl, by omega, ?_, hnx.trans hk3, hb3.trans hbx⟩
          have e1 : s.length - q = (s.length - (q + 1)) + 1 := by omega
          have e2 : s.length - 1 - (s.length - (q + 1)) = q := by omega
          exact ⟨_, by rw [e1, pvUp_succ, e2, List.map_append, hys]; rfl, hJ3⟩
        case measure => show ((q : Int) - 1 + 1).toNat < ((q : Int) + 1).toNat; omega
      · gi_wp2
        refine bodyPost_ret (results_none rfl _ _ _) rfl ?_
        exact ⟨⟨_, rfl⟩, .inr ⟨_, trivial, hJx3⟩⟩
theorem pv_backward (F : Fence) (n : Nat) (hF : F.fn 56) (hro : F.round = none) (a : Option Addr) (len cap : Nat) (w : World) :
    CallsIn F n Try.prog 56 #[.slice a len cap] w fun e w' => e = .returned (.func (.func 62) #[] #[.pointer (some ⟨w.heap.size, 0, none⟩)]) ∧ w' = w.alloc (.cells #[.slice a len cap] 22) := by
  refine callsIn_of_wp Try.func56 rfl hF ?_ hro
  simp only [Try.ntmps56, List.size_toArray, List.length_cons, List.length_nil, Nat.reduceAdd, Nat.reduceSub, Array.replicate_succ, Array.replicate_zero, List.push_toArray, List.append_toArray, List.nil_append, List.cons_append]
  gi_wp2
  go_ret
  exact ⟨rfl, rfl⟩
end Go.Proofs.Ytceghmceoliplaa.Pv
