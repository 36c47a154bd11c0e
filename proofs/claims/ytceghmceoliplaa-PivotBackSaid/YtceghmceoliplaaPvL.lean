/- PivotBack: the law's walk. -/
import Derived.Test.YtceghmceoliplaaProg
import Derived.Below
import Derived.Deep.Draws
import Derived.Deep.AppendLies
import Derived.Maps.AppendAt
import Derived.OwnWalk
import Derived.Laws.BytesArg
import Derived.Laws.MakeOwn
import Derived.Laws.OwnMore
import Derived.Deep.OwnRows
import Derived.Tactics
import Derived.Lib.ConvBytes
import Derived.Laws.Slices
import Derived.WalkKit
import Derived.KernelRfl
import Derived.RowKit3
import Derived.Deep.LoopGhost
import Derived.Deep.QuietTactic
import Derived.BigQuiet
import Derived.WideLaws
import Derived.Deep.DeepCutAuto
import Derived.Deep.CutBlock
import Derived.Deep.RegionHeld3
import Derived.Laws.Rows
import Derived.Lib.AppendStr
import Derived.ArgAppend
import Derived.Laws.IdiomCopy
import Derived.OrdersHeld
import Derived.Laws.BitsLemmas
import Derived.RowKit
import Derived.Test.YtceghmceoliplaaWWords
import Derived.Test.YtceghmceoliplaaWLast
import Derived.Test.YtceghmceoliplaaWTab
import Derived.Test.YtceghmceoliplaaWFour
import Derived.Test.YtceghmceoliplaaWQPut
import Derived.Test.YtceghmceoliplaaWApart
import Derived.Test.YtceghmceoliplaaWArr
import Derived.Test.YtceghmceoliplaaWZeros
import Derived.Test.YtceghmceoliplaaWFoot
import Derived.Test.YtceghmceoliplaaWKept
import Derived.Test.YtceghmceoliplaaWShare
import Derived.Test.YtceghmceoliplaaWN
import Derived.Test.YtceghmceoliplaaWFootNe
import Derived.Test.YtceghmceoliplaaWAt
import Derived.Test.YtceghmceoliplaaWEqStruct
import Derived.Test.YtceghmceoliplaaWRepsOne
import Derived.Test.YtceghmceoliplaaWInv
import Derived.Test.YtceghmceoliplaaWInvWords
import Derived.Test.YtceghmceoliplaaWGuard
import Derived.Test.YtceghmceoliplaaWNEv
import Derived.Test.YtceghmceoliplaaWMore
import Derived.Test.YtceghmceoliplaaPvE
namespace Go.Proofs.Ytceghmceoliplaa.Pv
open Go.RowKit Go.Proofs.YtceghmceoliplaaW.PrintWords Go.Proofs.YtceghmceoliplaaW.PrintLast Go.Proofs.YtceghmceoliplaaW.PrintMore
attribute [local go_sem] max2_int min2_int max_two min_two max_three min_three max_four min_four
set_option linter.unusedVariables false
set_option linter.unusedSimpArgs false
open Go.Proofs.Ytceghmceoliplaa.PPivotBack
theorem pv_vals (r m n : Int) (xs : List Int) : ∃ (p1 p2 ep : Int) (lp : List Int), (r ≠ 0 → p1 = 0 ∧ p2 = 0 ∧ lp = [] ∧ ep = r) ∧ (r = 0 → p1 = m ∧ p2 = n ∧ lp = xs ∧ ep = 0) := by
  by_cases h : r = 0
  · exact ⟨m, n, 0, xs, fun k => absurd h k, fun _ => ⟨rfl, rfl, rfl, rfl⟩⟩
  · exact ⟨0, 0, r, [], fun _ => ⟨rfl, rfl, rfl, rfl⟩, fun k => absurd k h⟩
theorem pb_r11 (m : Int) (s : List Int) : pvReady m 11 s = 11 := by unfold pvReady; rw [if_pos (by decide)]
theorem pb_next {m : Int} {s : List Int} {K : Nat} {ob b D : Bool} (hK : K < s.length) (h : ob = (D && pvOk m (s.take K))) (hv : pvIn m (rd s (K : Int)) = b) : (ob && b) = (D && pvOk m (s.take (K + 1))) := by
  subst h
  cases hp : pvOk m (s.take K) with
  | true => rw [pv_ok_take hp hK, hv, Bool.and_true]
  | false =>
    have : pvOk m (s.take (K + 1)) = false := by
      unfold pvOk at *
      rw [List.take_add_one, List.all_append, hp, Bool.false_and]
    rw [this, Bool.and_false, Bool.false_and]
def PbA (w : World) (m n : Int) (u : Value) (W : World) : Prop := Below w.heap.size w W ∧ MatBox W w.heap.size m n u
theorem PbA.below {w : World} {m n : Int} {u : Value} {W W' : World} (h : PbA w m n u W) (k : Below W.heap.size W W') : PbA w m n u W' := ⟨below_then h.1 h.1.size k, blk_below h.2 k⟩
theorem PbA.start (w : World) (m n : Int) (u : Value) : PbA w m n u (w.alloc (.cells #[.int .i64 m, .int .i64 n, u] 36)) := ⟨below_alloc (Below.refl _ w) _, blk_new w _⟩
/-- a matrix that was made: its box, and its row -/
def PbB (w : World) (b : Nat) (m n : Int) (x : Value) (xs : List Int) (W : World) : Prop := MatBox W b m n x ∧ Kd.R (Kd.int .u64) 40 W w.heap.size (fun _ => True) x xs ∧ w.heap.size < b
theorem PbB.below {w : World} {b : Nat} {m n : Int} {x : Value} {xs : List Int} {W W' : World} (h : PbB w b m n x xs W) (k : Below W.heap.size W W') : PbB w b m n x xs W' := ⟨blk_below h.1 k, Kd.R_below h.2.1 k, h.2.2⟩
theorem pbPut_box {w W : World} {m n : Int} {x : Value} {xs : List Int} (hR : Kd.R (Kd.int .u64) 40 W w.heap.size (fun _ => True) x xs) (hb : w.heap.size < W.heap.size) : PbB w W.heap.size m n x xs (W.alloc (.cells #[.int .i64 m, .int .i64 n, x] 36)) :=
  ⟨blk_new W _, Kd.R_below hR (below_alloc (Below.refl _ W) _), hb⟩
theorem PbA.put {w : World} {m n : Int} {u : Value} {W : World} {b : Nat} (h : PbA w m n u W) (hb : w.heap.size < b) (i : Nat) (x : Value) : PbA w m n u (W.setCell ⟨b, i, none⟩ x) :=
  ⟨h.1.setCell (p := ⟨b, i, none⟩) (show w.heap.size ≤ b by omega) _, (Below.heap_setCell W _ _ _ (show w.heap.size ≠ b by omega)).trans h.2⟩
theorem PbB.put {w : World} {b : Nat} {m n : Int} {x : Value} {xs : List Int} {W : World} {b2 : Nat} {cs : Array Value} (h : PbB w b m n x xs W) (hb : b ≠ b2) (h2 : W.heap[b2]? = some (.cells cs 36 (0, 0))) (i : Nat) (y : Value) : PbB w b m n x xs (W.setCell ⟨b2, i, none⟩ y) :=
  ⟨(Below.heap_setCell W _ _ _ hb).trans h.1, R_put24 h.2.1 h2, h.2.2⟩
theorem PbA.put3 {w : World} {m n : Int} {u : Value} {W : World} {b : Nat} (h : PbA w m n u W) (hb : w.heap.size < b) (x y z : Value) : PbA w m n u (((W.setCell ⟨b, 0, none⟩ x).setCell ⟨b, 1, none⟩ y).setCell ⟨b, 2, none⟩ z) := ((h.put hb 0 x).put hb 1 y).put hb 2 z
theorem PbB.put3 {w : World} {b : Nat} {m n m0 n0 : Int} {x u0 : Value} {xs : List Int} {W : World} {b2 : Nat} (h : PbB w b m n x xs W) (hb : b ≠ b2) (hX : MatBox W b2 m0 n0 u0) (v0 v1 v2 : Value) : PbB w b m n x xs (((W.setCell ⟨b2, 0, none⟩ v0).setCell ⟨b2, 1, none⟩ v1).setCell ⟨b2, 2, none⟩ v2) :=
  ((h.put hb hX 0 v0).put hb (blk_put hX 0 _ rfl) 1 v1).put hb (blk_put (blk_put hX 0 _ rfl) 1 _ rfl) 2 v2
theorem pb_swap (m n : Int) (A : Option Addr) (c L : Nat) (xs : List Int) (hL : xs.length = L) (i k : Int) (ys : List Int) (hY : ys.length = L) (w : World) (hr : Kd.C (Kd.int .u64) w A xs.length xs) (hc : xs.length ≤ c) (h : pivot_Swap.f m n xs i k = some (m, n, ys, 0)) :
    Calls Try.prog 33 #[.agg #[.int .i64 m, .int .i64 n, .slice A L c], .int .i64 i, .int .i64 k] w fun e w' => ∃ (A1 : Option Addr) (c1 : Nat), e = .returned (.tuple #[.agg #[.int .i64 m, .int .i64 n, .slice A1 L c1], .int .i64 0]) ∧ Kd.R (Kd.int .u64) 40 w' w.heap.size (fun _ => True) (.slice A1 L c1) ys ∧ Below w.heap.size w w' := by
  subst hL
  refine (pivot_Swap.calls m n A c xs i k m n ys 0 w hr hc h).mono ?_
  rintro e w' ⟨v, rfl, hR, hb⟩
  obtain ⟨A1, c1, rfl⟩ := Kd.R_slice hR
  rw [hY] at hR ⊢
  exact ⟨A1, c1, rfl, hR, hb⟩
/-- the matrix that changes: its box; its row is the caller's, or its own -/
def PbX (w : World) (b : Nat) (m n : Int) (L : Nat) (A : Option Addr) (c : Nat) (xs : List Int) (W : World) : Prop := MatBox W b m n (.slice A L c) ∧ (Kd.C (Kd.int .u64) w A L xs ∧ L ≤ c ∨ Kd.R (Kd.int .u64) 40 W w.heap.size (fun _ => True) (.slice A L c) xs) ∧ w.heap.size < b ∧ xs.length = L
theorem PbX.below {w : World} {b : Nat} {m n : Int} {L : Nat} {A : Option Addr} {c : Nat} {xs : List Int} {W W' : World} (h : PbX w b m n L A c xs W) (k : Below W.heap.size W W') : PbX w b m n L A c xs W' := ⟨blk_below h.1 k, h.2.1.imp id (fun r => Kd.R_below r k), h.2.2⟩
theorem PbX.reads {w : World} {b : Nat} {m n : Int} {L : Nat} {A : Option Addr} {c : Nat} {xs : List Int} {W : World} (h : PbX w b m n L A c xs W) (hB : Below w.heap.size w W) : Kd.C (Kd.int .u64) W A xs.length xs ∧ xs.length ≤ c := by
  obtain ⟨_, h2, _, rfl⟩ := h
  rcases h2 with h2 | h2
  · exact ⟨Kd.C_below h2.1 hB, h2.2⟩
  · exact ⟨(Kd.R_reads' h2).2.2, (Kd.R_reads' h2).2.1⟩
theorem pb_ok_next {m : Int} {s : List Int} {K : Nat} {b : Bool} (hK : K < s.length) (h : pvOk m (s.take K) = true) (hb : pvIn m (rd s (K : Int)) = b) : pvOk m (s.take (K + 1)) = b := by rw [pv_ok_take h hK, hb]
theorem pb_ok_no {m : Int} {s : List Int} {K : Nat} (h : pvOk m (s.take K) = false) : pvOk m (s.take (K + 1)) = false := by
  unfold pvOk at *
  rw [List.take_add_one, List.all_append, h, Bool.false_and]
theorem pb_ready {m : Int} {s : List Int} {ob : Bool} (h : ob = (decide ((s.length : Int) ≤ m) && pvOk m s)) : pvReady m 0 s = if ob then 0 else 4 := by
  subst h
  unfold pvReady
  rw [if_neg (by decide)]
  by_cases a : (s.length : Int) ≤ m
  · rw [decide_eq_true a, Bool.true_and]
    cases hv : pvOk m s with
    | true => rw [if_neg (by simp; omega)]; rfl
    | false => rw [if_pos (.inr rfl)]; rfl
  · rw [decide_eq_false a, Bool.false_and, if_pos (.inl (by omega))]
    rfl
theorem pb_d {m n : Int} {M N : Nat} {l s : List Int} (h : PvN m n M N l s) : (pvReady m 0 s ≠ 0 → m = 0 ∧ n = 0 ∧ l = [] ∧ 0 = pvReady m 0 s) ∧ (pvReady m 0 s = 0 → m = m ∧ n = n ∧ l = pvBk (pvApp l N s s.length) n.toNat s s.length ∧ (0 : Int) = 0) := by
  refine ⟨fun k => absurd h.ready k, fun _ => ⟨rfl, rfl, ?_, rfl⟩⟩
  have e : n.toNat = N := by have := h.en; omega
  have a := pvApp_back h s.length (Nat.le_refl _)
  rw [Nat.sub_self] at a
  rw [e, a]
  rfl
theorem pb_h {m n : Int} {M N : Nat} {l s : List Int} (h : PvN m n M N l s) : (pvReady m 0 s ≠ 0 → m = 0 ∧ n = 0 ∧ l = [] ∧ 0 = pvReady m 0 s) ∧ (pvReady m 0 s = 0 → m = m ∧ n = n ∧ l = pvApp (pvBk l N s s.length) n.toNat s s.length ∧ (0 : Int) = 0) := by
  refine ⟨fun k => absurd h.ready k, fun _ => ⟨rfl, rfl, ?_, rfl⟩⟩
  have e : n.toNat = N := by have := h.en; omega
  have a := pvBk_app h s.length (Nat.le_refl _)
  rw [Nat.sub_self] at a
  rw [e, a]
  rfl
theorem pb_same (m n : Int) (A : Option Addr) (c L : Nat) (A2 : Option Addr) (c2 L2 : Nat) (xs : List Int) (h1 : xs.length = L) (h2 : xs.length = L2) (hs : xs.length ≤ 4096) (w : World) (hr : Kd.C (Kd.int .u64) w A xs.length xs ∧ xs.length ≤ c) (hr2 : Kd.C (Kd.int .u64) w A2 xs.length xs ∧ xs.length ≤ c2) :
    Calls Try.prog 39 #[.agg #[.int .i64 m, .int .i64 n, .slice A L c], .agg #[.int .i64 m, .int .i64 n, .slice A2 L2 c2]] w fun e w' => e = .returned (.bool true) ∧ Below w.heap.size w w' := by
  subst h1 h2
  exact shape_Same.calls (xs.length + 1) m n A c xs m n A2 c2 xs true w hr.1 hr.2 hr2.1 hr2.2 (same_self m n xs hs)
theorem PbB.reads {w : World} {b : Nat} {m n : Int} {A : Option Addr} {L c : Nat} {xs : List Int} {W : World} (h : PbB w b m n (.slice A L c) xs W) : Kd.C (Kd.int .u64) W A xs.length xs ∧ xs.length ≤ c := by
  have h1 := Kd.R_reads' h.2.1
  exact ⟨h1.2.2, by omega⟩
set_option maxHeartbeats 8000000 in
set_option maxRecDepth 100000 in
theorem pb_walk (w : World) (m n : Int) (A : Option Addr) (c : Nat) (l : List Int) (A0 : Option Addr) (c0 : Nat) (s : List Int) (hr : Kd.C (Kd.int .u64) w A l.length l) (hc : l.length ≤ c) (hr0 : Kd.C (Kd.int .i64) w A0 s.length s) (hc0 : s.length ≤ c0) (hm : s.length ≤ 4611686018427387904)
    (ka : Nat) (al : vernierlaw24_alive.f ka = some true) (t : Int) (ht : shape_Check.f m n l = some t) (h11 : t = 0 ∨ t = 11)
    (p1 p2 ep : Int) (lp : List Int) (hno : pvReady m t s ≠ 0 → p1 = 0 ∧ p2 = 0 ∧ lp = [] ∧ ep = pvReady m t s) (hok : pvReady m t s = 0 → p1 = m ∧ p2 = n ∧ lp = pvApp l n.toNat s s.length ∧ ep = 0)
    (q1 q2 eq : Int) (lq : List Int) (hno2 : pvReady m t s ≠ 0 → q1 = 0 ∧ q2 = 0 ∧ lq = [] ∧ eq = pvReady m t s) (hok2 : pvReady m t s = 0 → q1 = m ∧ q2 = n ∧ lq = pvBk l n.toNat s s.length ∧ eq = 0) :
    Calls Try.prog 12 #[.agg #[.int .i64 m, .int .i64 n, .slice A l.length c], .slice A0 s.length c0] w fun e w' => e = .returned (.bool true) ∧ Below w.heap.size w w' := by
  have hu36 := Try.underlying36
  have H0 := Aside0.mk hr
  have HC := Aside0.mk hc
  have HR0 := Aside0.mk hr0
  have HC0 := Aside0.mk hc0
  have HM := Aside0.mk hm
  have HAL := Aside0.mk al
  have HT := Aside0.mk ht
  have HN1 := Aside0.mk hno
  have HO1 := Aside0.mk hok
  have HN2 := Aside0.mk hno2
  have HO2 := Aside0.mk hok2
  have I0 := Aside0.mk (PbA.start w m n (.slice A l.length c))
  clear hr hc hr0 hc0 hm al ht hno hok hno2 hok2
  go_enter Try.func12, Try.ntmps12
  go_upto_region 4 with (first
    | (go_at_call 21; refine (vernierlaw24_alive.calls ka true _ HAL.out).mono ?_; rintro e W1 ⟨rfl, hb1⟩; have I1 := Aside0.mk (I0.out.below hb1); obtain ⟨x0, x1, x2⟩ := matBox_cells I1.out.2; clear hb1)
    | (go_at_call 41; refine (pv_apply m n A c l A0 c0 s t _ (Kd.C_below H0.out I1.out.1) HC.out (Kd.C_below HR0.out I1.out.1) HC0.out HM.out HT.out p1 p2 ep lp HN1.out HO1.out).mono ?_; rintro e W2 ⟨vc, rfl, hR2, hb2⟩; obtain ⟨Ab, cb, rfl⟩ := Kd.R_slice hR2; have I2 := Aside0.mk (I1.out.below hb2); have R2 := Aside0.mk (Kd.R_lower (base' := w.heap.size) hR2 I1.out.1.size); have L2 : Aside0 (w.heap.size < W2.heap.size) := ⟨blk_lt I2.out.2⟩; clear x0 x1 x2 hb2 hR2; obtain ⟨z0, z1, z2⟩ := matBox_cells (show MatBox _ W2.heap.size 0 0 (.slice none 0 0) from blk_new W2 (.cells #[.int .i64 0, .int .i64 0, .slice none 0 0] 36)); have zf := blk_frozen (show MatBox _ W2.heap.size 0 0 (.slice none 0 0) from blk_new W2 (.cells #[.int .i64 0, .int .i64 0, .slice none 0 0] 36))))
  have I3 := Aside0.mk (I2.out.below (below_alloc (Below.refl _ W2) (.cells #[.int .i64 p1, .int .i64 p2, (.slice Ab lp.length cb)] 36)))
  have B3 := Aside0.mk (pbPut_box (m := p1) (n := p2) R2.out L2.out)
  clear z0 z1 z2 zf I2 R2 L2
  generalize W2.alloc (.cells #[.int .i64 p1, .int .i64 p2, (.slice Ab lp.length cb)] 36) = W3 at *
  generalize W2.heap.size = bb at *
  obtain ⟨x0, x1, x2⟩ := matBox_cells I3.out.2
  go_upto_region 5 with (first
    | (go_at_call 42; refine (pv_back m n A c l A0 c0 s t _ (Kd.C_below H0.out I3.out.1) HC.out (Kd.C_below HR0.out I3.out.1) HC0.out HM.out HT.out q1 q2 eq lq HN2.out HO2.out).mono ?_; rintro e W4 ⟨vp, rfl, hR4, hb4⟩; obtain ⟨Ac, cc, rfl⟩ := Kd.R_slice hR4; have I4 := Aside0.mk (I3.out.below hb4); have B4 := Aside0.mk (B3.out.below hb4); have R4 := Aside0.mk (Kd.R_lower (base' := w.heap.size) hR4 I3.out.1.size); have L4 : Aside0 (w.heap.size < W4.heap.size) := ⟨blk_lt I4.out.2⟩; clear x0 x1 x2 hb4 hR4; obtain ⟨z0, z1, z2⟩ := matBox_cells (show MatBox _ W4.heap.size 0 0 (.slice none 0 0) from blk_new W4 (.cells #[.int .i64 0, .int .i64 0, .slice none 0 0] 36)); have zf := blk_frozen (show MatBox _ W4.heap.size 0 0 (.slice none 0 0) from blk_new W4 (.cells #[.int .i64 0, .int .i64 0, .slice none 0 0] 36))))
  have I5 := Aside0.mk (I4.out.below (below_alloc (Below.refl _ W4) (.cells #[.int .i64 q1, .int .i64 q2, (.slice Ac lq.length cc)] 36)))
  have B5 := Aside0.mk (B4.out.below (below_alloc (Below.refl _ W4) (.cells #[.int .i64 q1, .int .i64 q2, (.slice Ac lq.length cc)] 36)))
  have C5 := Aside0.mk (pbPut_box (m := q1) (n := q2) R4.out L4.out)
  clear z0 z1 z2 zf I4 R4 L4 B4
  generalize W4.alloc (.cells #[.int .i64 q1, .int .i64 q2, (.slice Ac lq.length cc)] 36) = W5 at *
  generalize W4.heap.size = bc at *
  clear I3 B3 I0 I1
  obtain ⟨x0, x1, x2⟩ := matBox_cells I5.out.2
  by_cases ht0 : t = 0
  · subst ht0
    clear h11
    go_upto_region 8 with (first
      | (go_at_call 34; refine (shape_Check.calls m n A c l 0 _ (Kd.C_below H0.out I5.out.1) HC.out HT.out).mono ?_; rintro e W6 ⟨rfl, hb6⟩; have I6 := Aside0.mk (I5.out.below hb6); have B6 := Aside0.mk (B5.out.below hb6); have C6 := Aside0.mk (C5.out.below hb6); clear x0 x1 x2; obtain ⟨x0, x1, x2⟩ := matBox_cells I6.out.2; clear hb6))
    go_wp2
    go_loopg [9, 10] s.length (fun hk v9 v10 wc => ∃ (K : Nat) (ob : Bool), v9 = .bool ob ∧ v10 = .int .i64 K ∧ Aside0 (K + hk = s.length) ∧ Aside0 (ob = (decide ((s.length : Int) ≤ m) && pvOk m (s.take K))) ∧ Aside0 (PbA w m n (.slice A l.length c) wc) ∧ Aside0 (PbB w bb p1 p2 (.slice Ab lp.length cb) lp wc) ∧ Aside0 (PbB w bc q1 q2 (.slice Ac lq.length cc) lq wc))
    case atStart => exact ⟨0, _, rfl, rfl, ⟨by omega⟩, ⟨by simp [pvOk]⟩, I6, B6, C6⟩
    case round => as_aux_lemma =>
      clear I6 B6 C6 I5 B5 C5 x0 x1 x2
      obtain ⟨K, ob, rfl, rfl, HJ, HOB, I7, B7, C7⟩ := hrel
      obtain ⟨x0, x1, x2⟩ := matBox_cells I7.out.2
      by_cases hlt : K < s.length
      · have d0n : decide (K < s.length) = true := decide_eq_true hlt
        have d0 : decide ((K : Int) < (s.length : Int)) = true := decide_eq_true (by omega)
        have HLT := Aside0.mk hlt
        have HS : Aside0 (wrap64 ((K : Int) + 1) = ((K + 1 : Nat) : Int)) := ⟨by have := HM.out; unfold wrap64; omega⟩
        clear hlt
        cases ob with
        | false =>
          go_wp2
          go_quiet (fail)
          go_wp2
          go_roundg (gk - 1)
          case measure => exact cut_m HJ.out HLT.out
          case rel => exact ⟨K + 1, false, rfl, by rw [HS.out], ⟨cut_r HJ.out HLT.out⟩, ⟨by have h := pb_next HLT.out HOB.out rfl; rw [Bool.false_and] at h; exact h⟩, ⟨I7.out.below (pw_below_drewN (Below.refl _ _) _)⟩, ⟨B7.out.below (pw_below_drewN (Below.refl _ _) _)⟩, ⟨C7.out.below (pw_below_drewN (Below.refl _ _) _)⟩⟩
        | true =>
          have g1 : 0 ≤ (K : Int) := Int.natCast_nonneg K
          have k1 : (K : Int) < (s.length : Int) := Int.ofNat_lt.mpr HLT.out
          obtain ⟨ad, e1, hx1⟩ := Kd.at_int HR0.out (K : Int) g1 k1
          cases e1
          replace hx1 := (I7.out.1.cell (World.block_lt_of_cell? w _ hx1)).trans hx1
          obtain ⟨kv, hkv⟩ : ∃ x, rd s (K : Int) = x := ⟨_, rfl⟩
          have HKV := Aside0.mk hkv
          rw [hkv] at hx1
          have hy1 := hx1
          rw [Int.toNat_natCast] at hy1
          replace g1 := eq_true g1
          replace k1 := eq_true k1
          clear hkv
          by_cases h0 : kv ≥ 0
          · have b0 : decide (kv ≥ 0) = true := decide_eq_true h0
            have a0 : decide (0 ≤ kv) = true := decide_eq_true h0
            by_cases h1 : kv < m
            · have b1 : decide (kv < m) = true := decide_eq_true h1
              have HN := Aside0.mk (pb_next (b := true) HLT.out HOB.out (by rw [HKV.out]; unfold pvIn; exact decide_eq_true ⟨h0, h1⟩))
              clear h0 h1
              go_wp2
              go_quiet (fail)
              go_wp2
              go_roundg (gk - 1)
              case measure => exact cut_m HJ.out HLT.out
              case rel => exact ⟨K + 1, true, rfl, by rw [HS.out], ⟨cut_r HJ.out HLT.out⟩, ⟨HN.out⟩, ⟨I7.out.below (pw_below_drewN (Below.refl _ _) _)⟩, ⟨B7.out.below (pw_below_drewN (Below.refl _ _) _)⟩, ⟨C7.out.below (pw_below_drewN (Below.refl _ _) _)⟩⟩
            · have b1 : decide (kv < m) = false := decide_eq_false h1
              have HN := Aside0.mk (pb_next (b := false) HLT.out HOB.out (by rw [HKV.out]; unfold pvIn; exact decide_eq_false (by omega)))
              clear h0 h1
              go_wp2
              go_quiet (fail)
              go_wp2
              go_roundg (gk - 1)
              case measure => exact cut_m HJ.out HLT.out
              case rel => exact ⟨K + 1, false, rfl, by rw [HS.out], ⟨cut_r HJ.out HLT.out⟩, ⟨HN.out⟩, ⟨I7.out.below (pw_below_drewN (Below.refl _ _) _)⟩, ⟨B7.out.below (pw_below_drewN (Below.refl _ _) _)⟩, ⟨C7.out.below (pw_below_drewN (Below.refl _ _) _)⟩⟩
          · have b0 : decide (kv ≥ 0) = false := decide_eq_false h0
            have a0 : decide (0 ≤ kv) = false := decide_eq_false h0
            have HN := Aside0.mk (pb_next (b := false) HLT.out HOB.out (by rw [HKV.out]; unfold pvIn; exact decide_eq_false (by omega)))
            clear h0
            go_wp2
            go_quiet (fail)
            go_wp2
            go_roundg (gk - 1)
            case measure => exact cut_m HJ.out HLT.out
            case rel => exact ⟨K + 1, false, rfl, by rw [HS.out], ⟨cut_r HJ.out HLT.out⟩, ⟨HN.out⟩, ⟨I7.out.below (pw_below_drewN (Below.refl _ _) _)⟩, ⟨B7.out.below (pw_below_drewN (Below.refl _ _) _)⟩, ⟨C7.out.below (pw_below_drewN (Below.refl _ _) _)⟩⟩
      · have d0n : decide (K < s.length) = false := decide_eq_false hlt
        have d0 : decide ((K : Int) < (s.length : Int)) = false := decide_eq_false (by omega)
        have eK : K = s.length := by have := HJ.out; omega
        have hrv : ob = (decide ((s.length : Int) ≤ m) && pvOk m s) := by have h := HOB.out; rw [eK, List.take_length] at h; exact h
        have HRV := Aside0.mk (pb_ready hrv)
        clear hlt HOB HJ eK hrv
        cases ob with
        | false =>
          obtain ⟨rfl, rfl, rfl, e1⟩ := HN1.out (by rw [HRV.out]; decide)
          obtain ⟨rfl, rfl, rfl, e2⟩ := HN2.out (by rw [HRV.out]; decide)
          obtain rfl : ep = 4 := by rw [e1, HRV.out]; rfl
          obtain rfl : eq = 4 := by rw [e2, HRV.out]; rfl
          clear e1 e2
          obtain ⟨b0, b1, b2⟩ := matBox_cells B7.out.1
          obtain ⟨c0, c1, c2⟩ := matBox_cells C7.out.1
          go_wp2
          go_ret
          exact ⟨rfl, I7.out.1⟩
        | true =>
          obtain ⟨M, N, pn⟩ := pv_N HT.out HRV.out
          have PN := Aside0.mk pn
          have eN : n.toNat = N := by have := pn.en; omega
          obtain ⟨rfl, rfl, elp, rfl⟩ := HO1.out HRV.out
          obtain ⟨rfl, rfl, elq, rfl⟩ := HO2.out HRV.out
          rw [eN] at elp elq
          subst elp elq
          clear HN1 HN2 HO1 HO2 pn eN
          obtain ⟨z0, z1, z2⟩ := matBox_cells (show MatBox _ wr.heap.size 0 0 (.slice none 0 0) from blk_new wr (.cells #[.int .i64 0, .int .i64 0, .slice none 0 0] 36))
          have zf := blk_frozen (show MatBox _ wr.heap.size 0 0 (.slice none 0 0) from blk_new wr (.cells #[.int .i64 0, .int .i64 0, .slice none 0 0] 36))
          go_upto_region 15 with (fail)
          have I8 := Aside0.mk (I7.out.below (below_alloc (Below.refl _ wr) (.cells #[.int .i64 q1, .int .i64 q2, (.slice A l.length c)] 36)))
          have B8 := Aside0.mk (B7.out.below (below_alloc (Below.refl _ wr) (.cells #[.int .i64 q1, .int .i64 q2, (.slice A l.length c)] 36)))
          have C8 := Aside0.mk (C7.out.below (below_alloc (Below.refl _ wr) (.cells #[.int .i64 q1, .int .i64 q2, (.slice A l.length c)] 36)))
          have X8 := Aside0.mk (show PbX w wr.heap.size q1 q2 l.length A c l (wr.alloc (.cells #[.int .i64 q1, .int .i64 q2, (.slice A l.length c)] 36)) from ⟨blk_new wr _, .inl ⟨H0.out, HC.out⟩, blk_lt I7.out.2, rfl⟩)
          have NE := Aside0.mk (show w.heap.size < wr.heap.size ∧ bb ≠ wr.heap.size ∧ bc ≠ wr.heap.size from ⟨blk_lt I7.out.2, Nat.ne_of_lt (blk_lt B7.out.1), Nat.ne_of_lt (blk_lt C7.out.1)⟩)
          clear z0 z1 z2 zf x0 x1 x2 I7 B7 C7
          generalize wr.alloc (.cells #[.int .i64 q1, .int .i64 q2, (.slice A l.length c)] 36) = W8 at *
          generalize wr.heap.size = bx at *
          go_wp2
          go_loopg [12] s.length (fun hk v12 wc => ∃ (T : Nat), v12 = .int .i64 T ∧ Aside0 (T + hk = s.length) ∧ Aside0 (PbA w q1 q2 (.slice A l.length c) wc) ∧ Aside0 (PbB w bb q1 q2 (.slice Ab (pvApp l N s s.length).length cb) (pvApp l N s s.length) wc) ∧ Aside0 (PbB w bc q1 q2 (.slice Ac (pvBk l N s s.length).length cc) (pvBk l N s s.length) wc) ∧ Aside0 (∃ Ax cx, PbX w bx q1 q2 l.length Ax cx (pvApp l N s T) wc))
          case atStart => exact ⟨0, rfl, ⟨by omega⟩, I8, B8, C8, ⟨A, c, X8.out⟩⟩
          case round => as_aux_lemma =>
            clear I8 B8 C8 X8
            obtain ⟨T, rfl, HJ, I9, B9, C9, ⟨Ax, cx, hX⟩⟩ := hrel
            have X9 := Aside0.mk hX
            clear hX
            by_cases hlt : T < s.length
            · have d2n : decide (T < s.length) = true := decide_eq_true hlt
              have d2 : decide ((T : Int) < (s.length : Int)) = true := decide_eq_true (by omega)
              have HLT := Aside0.mk hlt
              have g1 : 0 ≤ (T : Int) := Int.natCast_nonneg T
              have k1 : (T : Int) < (s.length : Int) := by omega
              obtain ⟨ad, e1, hx1⟩ := Kd.at_int HR0.out (T : Int) g1 k1
              cases e1
              replace hx1 := (I9.out.1.cell (World.block_lt_of_cell? w _ hx1)).trans hx1
              have PT := Aside0.mk (PN.out.other (l' := pvApp l N s T) (pvApp_len l N s T))
              have SW := Aside0.mk (pv_swap_f PT.out hlt)
              have AT := Aside0.mk (PN.out.at hlt)
              obtain ⟨kv, hkv⟩ : ∃ x, rd s (T : Int) = x := ⟨_, rfl⟩
              have SV : Aside0 (pivot_Swap.f q1 q2 (pvApp l N s T) (T : Int) kv = some (q1, q2, pvApp l N s (T + 1), 0)) := ⟨by
                have h := SW.out
                rw [hkv] at h
                rw [h]
                have h2 := AT.out.2.2.2
                rw [hkv] at h2
                show _ = some (q1, q2, pvRows (pvApp l N s T) N T (s.getD T 0).toNat N, (0 : Int))
                rw [h2]⟩
              rw [hkv] at hx1
              have hy1 := hx1
              rw [Int.toNat_natCast] at hy1
              replace g1 := eq_true g1
              replace k1 := eq_true k1
              clear hlt AT hkv SW
              have HXR := Aside0.mk (X9.out.reads I9.out.1)
              have HL : Aside0 ((pvApp l N s T).length = l.length) := ⟨pvApp_len l N s T⟩
              obtain ⟨k0, k1', k2⟩ := matBox_cells X9.out.1
              have kf := blk_frozen X9.out.1
              have HB1 : Aside0 (∀ W5, Below wr.drew.heap.size wr.drew W5 → PbA w q1 q2 (.slice A l.length c) W5 ∧ PbB w bb q1 q2 (.slice Ab (pvApp l N s s.length).length cb) (pvApp l N s s.length) W5 ∧ PbB w bc q1 q2 (.slice Ac (pvBk l N s s.length).length cc) (pvBk l N s s.length) W5 ∧ MatBox W5 bx q1 q2 (.slice Ax l.length cx)) := ⟨fun W5 hb => by
                have hb5 : Below wr.heap.size wr W5 := below_then (below_drew (Below.refl wr.heap.size wr)) (Nat.le_refl _) hb
                exact ⟨I9.out.below hb5, B9.out.below hb5, C9.out.below hb5, blk_below X9.out.1 hb5⟩⟩
              have HSW := Aside0.mk (pb_swap q1 q2 Ax cx l.length (pvApp l N s T) HL.out (T : Int) kv (pvApp l N s (T + 1)) (pvApp_len l N s (T + 1)) wr.drew (Kd.C_drew HXR.out.1) HXR.out.2 SV.out)
              go_wp2
              go_region_law (first
                | (refine goes_ (f := 33) Try.func33 (by kernel_rfl) rfl #[.agg #[.int .i64 q1, .int .i64 q2, .slice Ax l.length cx], .int .i64 (T : Int), .int .i64 kv] (by simp [Region.wanted]) rfl rfl (by first | rfl | (simp only [List.map_toArray, List.map_cons, List.map_nil, Act.eval]; simp)) ?_; refine HSW.out.mono ?_; rintro e W5 ⟨A1, c1, rfl, hR5, hb5⟩; refine ⟨_, rfl, ?_⟩; obtain ⟨I10, B10, C10, X10⟩ := HB1.out W5 hb5; have I10 := Aside0.mk I10; have B10 := Aside0.mk B10; have C10 := Aside0.mk C10; have X10 := Aside0.mk X10; have R10 := Aside0.mk (Kd.R_lower (base' := w.heap.size) hR5 I9.out.1.size); clear k0 k1' k2 kf hb5 hR5; obtain ⟨k0, k1', k2⟩ := matBox_cells X10.out; have kf := blk_frozen X10.out))
              all_goals
                go_wp2
                go_roundg (gk - 1)
                case measure => exact cut_m HJ.out HLT.out
                case rel => exact ⟨T + 1, by rw [PN.out.step HLT.out], ⟨cut_r HJ.out HLT.out⟩, ⟨I10.out.put3 NE.out.1 _ _ _⟩, ⟨B10.out.put3 NE.out.2.1 X10.out _ _ _⟩, ⟨C10.out.put3 NE.out.2.2 X10.out _ _ _⟩, ⟨A1, c1, put3_box X10.out _ _ _, .inr (put3_R R10.out X10.out), NE.out.1, pvApp_len l N s (T + 1)⟩⟩
            · have d2n : decide (T < s.length) = false := decide_eq_false hlt
              have d2 : decide ((T : Int) < (s.length : Int)) = false := decide_eq_false (by omega)
              have eT : T = s.length := by have := HJ.out; omega
              have Y9 := Aside0.mk (show PbX w bx q1 q2 l.length Ax cx (pvApp l N s s.length) wr from eT ▸ X9.out)
              have PB := Aside0.mk (PN.out.other (l' := pvApp l N s s.length) (pvApp_len l N s s.length))
              have PC := Aside0.mk (PN.out.other (l' := pvBk l N s s.length) (pvBk_len l N s s.length))
              clear hlt eT X9
              obtain ⟨b0, b1, b2⟩ := matBox_cells B9.out.1
              go_upto_region 20 with (first
                | (go_at_call 42; refine (pv_back q1 q2 Ab cb (pvApp l N s s.length) A0 c0 s 0 _ B9.out.reads.1 B9.out.reads.2 (Kd.C_below HR0.out I9.out.1) HC0.out HM.out PB.out.check q1 q2 0 l (pb_d PN.out).1 (pb_d PN.out).2).mono ?_; rintro e W10 ⟨vd, rfl, hR10, hb10⟩; obtain ⟨Ad, cd, rfl⟩ := Kd.R_slice hR10; have I10 := Aside0.mk (I9.out.below hb10); have B10 := Aside0.mk (B9.out.below hb10); have C10 := Aside0.mk (C9.out.below hb10); have X10 := Aside0.mk (Y9.out.below hb10); have R10 := Aside0.mk (Kd.R_lower (base' := w.heap.size) hR10 I9.out.1.size); have L10 : Aside0 (w.heap.size < W10.heap.size) := ⟨blk_lt I10.out.2⟩; clear b0 b1 b2 hb10 hR10; obtain ⟨z0, z1, z2⟩ := matBox_cells (show MatBox _ W10.heap.size 0 0 (.slice none 0 0) from blk_new W10 (.cells #[.int .i64 0, .int .i64 0, .slice none 0 0] 36)); have zf := blk_frozen (show MatBox _ W10.heap.size 0 0 (.slice none 0 0) from blk_new W10 (.cells #[.int .i64 0, .int .i64 0, .slice none 0 0] 36))))
              have I11 := Aside0.mk (I10.out.below (below_alloc (Below.refl _ W10) (.cells #[.int .i64 q1, .int .i64 q2, (.slice Ad l.length cd)] 36)))
              have B11 := Aside0.mk (B10.out.below (below_alloc (Below.refl _ W10) (.cells #[.int .i64 q1, .int .i64 q2, (.slice Ad l.length cd)] 36)))
              have C11 := Aside0.mk (C10.out.below (below_alloc (Below.refl _ W10) (.cells #[.int .i64 q1, .int .i64 q2, (.slice Ad l.length cd)] 36)))
              have X11 := Aside0.mk (X10.out.below (below_alloc (Below.refl _ W10) (.cells #[.int .i64 q1, .int .i64 q2, (.slice Ad l.length cd)] 36)))
              have D11 := Aside0.mk (pbPut_box (m := q1) (n := q2) R10.out L10.out)
              clear z0 z1 z2 zf I10 B10 C10 X10 R10 L10 I9 B9 C9 Y9
              generalize W10.alloc (.cells #[.int .i64 q1, .int .i64 q2, (.slice Ad l.length cd)] 36) = W11 at *
              generalize W10.heap.size = bd at *
              obtain ⟨c0', c1, c2⟩ := matBox_cells C11.out.1
              go_upto_region 21 with (first
                | (go_at_call 41; refine (pv_apply q1 q2 Ac cc (pvBk l N s s.length) A0 c0 s 0 _ C11.out.reads.1 C11.out.reads.2 (Kd.C_below HR0.out I11.out.1) HC0.out HM.out PC.out.check q1 q2 0 l (pb_h PN.out).1 (pb_h PN.out).2).mono ?_; rintro e W12 ⟨vh, rfl, hR12, hb12⟩; obtain ⟨Ah, ch, rfl⟩ := Kd.R_slice hR12; have I12 := Aside0.mk (I11.out.below hb12); have B12 := Aside0.mk (B11.out.below hb12); have X12 := Aside0.mk (X11.out.below hb12); have D12 := Aside0.mk (D11.out.below hb12); have R12 := Aside0.mk (Kd.R_lower (base' := w.heap.size) hR12 I11.out.1.size); have L12 : Aside0 (w.heap.size < W12.heap.size) := ⟨blk_lt I12.out.2⟩; clear c0' c1 c2 hb12 hR12; obtain ⟨z0, z1, z2⟩ := matBox_cells (show MatBox _ W12.heap.size 0 0 (.slice none 0 0) from blk_new W12 (.cells #[.int .i64 0, .int .i64 0, .slice none 0 0] 36)); have zf := blk_frozen (show MatBox _ W12.heap.size 0 0 (.slice none 0 0) from blk_new W12 (.cells #[.int .i64 0, .int .i64 0, .slice none 0 0] 36))))
              have I13 := Aside0.mk (I12.out.below (below_alloc (Below.refl _ W12) (.cells #[.int .i64 q1, .int .i64 q2, (.slice Ah l.length ch)] 36)))
              have B13 := Aside0.mk (B12.out.below (below_alloc (Below.refl _ W12) (.cells #[.int .i64 q1, .int .i64 q2, (.slice Ah l.length ch)] 36)))
              have X13 := Aside0.mk (X12.out.below (below_alloc (Below.refl _ W12) (.cells #[.int .i64 q1, .int .i64 q2, (.slice Ah l.length ch)] 36)))
              have D13 := Aside0.mk (D12.out.below (below_alloc (Below.refl _ W12) (.cells #[.int .i64 q1, .int .i64 q2, (.slice Ah l.length ch)] 36)))
              have E13 := Aside0.mk (pbPut_box (m := q1) (n := q2) R12.out L12.out)
              clear z0 z1 z2 zf I12 B12 X12 D12 R12 L12 I11 B11 C11 X11 D11
              generalize W12.alloc (.cells #[.int .i64 q1, .int .i64 q2, (.slice Ah l.length ch)] 36) = W13 at *
              generalize W12.heap.size = bh at *
              obtain ⟨b0, b1, b2⟩ := matBox_cells B13.out.1
              obtain ⟨k0, k1, k2⟩ := matBox_cells X13.out.1
              have HSM := Aside0.mk PN.out.small
              have HL : Aside0 ((pvApp l N s s.length).length = l.length) := ⟨pvApp_len l N s s.length⟩
              have S1 := Aside0.mk (pb_same q1 q2 Ax cx l.length Ab cb (pvApp l N s s.length).length (pvApp l N s s.length) HL.out rfl PB.out.small W13 (X13.out.reads I13.out.1) B13.out.reads)
              go_wp2_with (first
                | (go_at_call 39; (with_reducible refine S1.out.mono ?_); rintro e W14 ⟨rfl, hb14⟩; have I14 := Aside0.mk (I13.out.below hb14); have D14 := Aside0.mk (D13.out.below hb14); have E14 := Aside0.mk (E13.out.below hb14); have S2 := Aside0.mk (pb_same q1 q2 Ad cd l.length A c l.length l rfl rfl HSM.out W14 D14.out.reads ⟨Kd.C_below H0.out I14.out.1, HC.out⟩); clear b0 b1 b2 k0 k1 k2 hb14; obtain ⟨x0, x1, x2⟩ := matBox_cells I14.out.2; obtain ⟨k0, k1, k2⟩ := matBox_cells D14.out.1)
                | (go_at_call 39; (with_reducible refine S2.out.mono ?_); rintro e W15 ⟨rfl, hb15⟩; have I15 := Aside0.mk (I14.out.below hb15); have E15 := Aside0.mk (E14.out.below hb15); have S3 := Aside0.mk (pb_same q1 q2 Ah ch l.length A c l.length l rfl rfl HSM.out W15 E15.out.reads ⟨Kd.C_below H0.out I15.out.1, HC.out⟩); clear x0 x1 x2 k0 k1 k2 hb15; obtain ⟨x0, x1, x2⟩ := matBox_cells I15.out.2; obtain ⟨k0, k1, k2⟩ := matBox_cells E15.out.1)
                | (go_at_call 39; (with_reducible refine S3.out.mono ?_); rintro e W16 ⟨rfl, hb16⟩; have I16 := Aside0.mk (I15.out.below hb16); clear x0 x1 x2 k0 k1 k2 hb16))
              go_ret
              exact ⟨rfl, I16.out.1⟩
  · obtain rfl : t = 11 := h11.resolve_left ht0
    have hbt : ((11 : Int) != 0) = true := rfl
    obtain ⟨rfl, rfl, rfl, e1⟩ := HN1.out (by rw [pb_r11]; decide)
    obtain ⟨rfl, rfl, rfl, e2⟩ := HN2.out (by rw [pb_r11]; decide)
    obtain rfl : ep = 11 := by rw [e1, pb_r11]
    obtain rfl : eq = 11 := by rw [e2, pb_r11]
    clear e1 e2 ht0 h11
    go_wp2_with (first
      | (go_at_call 34; refine (shape_Check.calls m n A c l 11 _ (Kd.C_below H0.out I5.out.1) HC.out HT.out).mono ?_; rintro e W6 ⟨rfl, hb6⟩; have I6 := Aside0.mk (I5.out.below hb6); have B6 := Aside0.mk (B5.out.below hb6); have C6 := Aside0.mk (C5.out.below hb6); clear x0 x1 x2; obtain ⟨b0, b1, b2⟩ := matBox_cells B6.out.1; obtain ⟨c0, c1, c2⟩ := matBox_cells C6.out.1; clear hb6))
    go_ret
    exact ⟨rfl, I6.out.1⟩
theorem PivotBack_walk (W : World) (m n : Int) (A : Option Addr) (c : Nat) (l : List Int) (_wm : (Lit.int .i64 m).wf = true) (_wn : (Lit.int .i64 n).wf = true) (hr : Kd.C (Kd.int .u64) W A l.length l) (hc : l.length ≤ c) (_hm : l.length ≤ maxLen) (_hw : ∀ x ∈ l, (Lit.int .u64 x).wf = true)
    (A' : Option Addr) (c' : Nat) (l' : List Int) (hr' : Kd.C (Kd.int .i64) W A' l'.length l') (hc' : l'.length ≤ c') (_hm' : l'.length ≤ maxLen) (_hw' : ∀ x ∈ l', (Lit.int .i64 x).wf = true) (hy' : l'.length * 8 ≤ 140737488351232) :
    Calls Try.prog 12 #[.agg #[.int .i64 m, .int .i64 n, .slice A l.length c], .slice A' l'.length c'] W fun e w' => e = .returned (.bool true) ∧ Below W.heap.size W w' := by
  obtain ⟨ka, al⟩ := pv_alive
  obtain ⟨t, ht, h11⟩ := check_tot m n l
  obtain ⟨p1, p2, ep, lp, h1, h2⟩ := pv_vals (pvReady m t l') m n (pvApp l n.toNat l' l'.length)
  obtain ⟨q1, q2, eq, lq, h3, h4⟩ := pv_vals (pvReady m t l') m n (pvBk l n.toNat l' l'.length)
  exact pb_walk W m n A c l A' c' l' hr hc hr' hc' (by omega) ka al t ht h11 p1 p2 ep lp h1 h2 q1 q2 eq lq h3 h4
end Go.Proofs.Ytceghmceoliplaa.Pv
