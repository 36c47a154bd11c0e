/- PivotBack: boxes; may rows be swapped so. -/
import Derived.Test.YtceghmceoliplaaProg
import Derived.Below
import Derived.Deep.Draws
import Derived.Deep.AppendLies
import Derived.Maps.AppendAt
import Derived.OwnWalk
import Derived.Laws.BytesArg
import Derived.Laws.MakeOwn
import Derived.Laws.OwnMore
import Derived.Deep.OwnRows
import Derived.Tactics
import Derived.Lib.ConvBytes
import Derived.Laws.Slices
import Derived.WalkKit
import Derived.KernelRfl
import Derived.RowKit3
import Derived.Deep.LoopGhost
import Derived.Deep.QuietTactic
import Derived.BigQuiet
import Derived.WideLaws
import Derived.Deep.DeepCutAuto
import Derived.Deep.CutBlock
import Derived.Deep.RegionHeld3
import Derived.Laws.Rows
import Derived.Lib.AppendStr
import Derived.ArgAppend
import Derived.Laws.IdiomCopy
import Derived.OrdersHeld
import Derived.Laws.BitsLemmas
import Derived.RowKit
import Derived.Test.YtceghmceoliplaaWWords
import Derived.Test.YtceghmceoliplaaWLast
import Derived.Test.YtceghmceoliplaaWTab
import Derived.Test.YtceghmceoliplaaWFour
import Derived.Test.YtceghmceoliplaaWQPut
import Derived.Test.YtceghmceoliplaaWApart
import Derived.Test.YtceghmceoliplaaWArr
import Derived.Test.YtceghmceoliplaaWZeros
import Derived.Test.YtceghmceoliplaaWFoot
import Derived.Test.YtceghmceoliplaaWKept
import Derived.Test.YtceghmceoliplaaWShare
import Derived.Test.YtceghmceoliplaaWN
import Derived.Test.YtceghmceoliplaaWFootNe
import Derived.Test.YtceghmceoliplaaWAt
import Derived.Test.YtceghmceoliplaaWEqStruct
import Derived.Test.YtceghmceoliplaaWRepsOne
import Derived.Test.YtceghmceoliplaaWInv
import Derived.Test.YtceghmceoliplaaWInvWords
import Derived.Test.YtceghmceoliplaaWGuard
import Derived.Test.YtceghmceoliplaaWNEv
import Derived.Test.YtceghmceoliplaaWMore
import Derived.Test.YtceghmceoliplaaPPivotBackx2
import Derived.Shelf.GgClosure.Gives
namespace Go.Proofs.Ytceghmceoliplaa.Pv
open Go.RowKit Go.Proofs.YtceghmceoliplaaW.PrintWords Go.Proofs.YtceghmceoliplaaW.PrintLast Go.Proofs.YtceghmceoliplaaW.PrintMore
attribute [local go_sem] max2_int min2_int max_two min_two max_three min_three max_four min_four
set_option linter.unusedVariables false
set_option linter.unusedSimpArgs false
open Go.Proofs.Ytceghmceoliplaa.PPivotBack
def MatBox (w : World) (b : Nat) (m n : Int) (v : Value) : Prop := w.heap[b]? = some (.cells #[.int .i64 m, .int .i64 n, v] 36 (0, 0))
theorem matBox_cells {w : World} {b : Nat} {m n : Int} {v : Value} (h : MatBox w b m n v) : w.cell? ⟨b, 0, none⟩ = some (.int .i64 m) ∧ w.cell? ⟨b, 1, none⟩ = some (.int .i64 n) ∧ w.cell? ⟨b, 2, none⟩ = some v :=
  ⟨(blk_cell h 0).trans rfl, (blk_cell h 1).trans rfl, (blk_cell h 2).trans rfl⟩
theorem side_true {x : Int} (h : shape_side.f x = some true) : 1 ≤ x ∧ x ≤ 64 := by
  unfold shape_side.f at h
  by_cases a : x ≥ 1
  · rw [if_pos a] at h
    exact ⟨a, of_decide_eq_true (Option.some.inj h)⟩
  · rw [if_neg a] at h; cases h
theorem check_ok {m n : Int} {l : List Int} (h : shape_Check.f m n l = some 0) : ∃ M N : Nat, m = (M : Int) ∧ n = (N : Int) ∧ 1 ≤ M ∧ M ≤ 64 ∧ 1 ≤ N ∧ N ≤ 64 ∧ l.length = M * N := by
  unfold shape_Check.f at h
  obtain ⟨a, ha, h⟩ := Option.bind_eq_some_iff.1 h
  by_cases a1 : a = true
  · subst a1
    rw [if_pos rfl] at h
    obtain ⟨b, hb, h⟩ := Option.bind_eq_some_iff.1 h
    by_cases b1 : b = true
    · subst b1
      rw [if_pos rfl] at h
      by_cases c1 : (l.length : Int) = wrap64 (m * n)
      · have s1 := side_true ha
        have s2 := side_true hb
        obtain ⟨M, rfl⟩ := Int.eq_ofNat_of_zero_le (show 0 ≤ m by omega)
        obtain ⟨N, rfl⟩ := Int.eq_ofNat_of_zero_le (show 0 ≤ n by omega)
        have hb : M * N ≤ 64 * 64 := Nat.mul_le_mul (by omega) (by omega)
        rw [← Int.natCast_mul] at c1
        exact ⟨M, N, rfl, rfl, by omega, by omega, by omega, by omega, by unfold wrap64 at c1; omega⟩
      · rw [if_neg c1] at h; simp at h
    · rw [if_neg b1] at h; simp at h
  · rw [if_neg a1] at h; simp at h
theorem put3_box {W : World} {b : Nat} {m n : Int} {u : Value} (B : MatBox W b m n u) (m' n' : Int) (u' : Value) : MatBox (((W.setCell ⟨b, 0, none⟩ (.int .i64 m')).setCell ⟨b, 1, none⟩ (.int .i64 n')).setCell ⟨b, 2, none⟩ u') b m' n' u' := blk_put (blk_put (blk_put B 0 _ rfl) 1 _ rfl) 2 _ rfl
theorem put3_below {B : Nat} {w W : World} {b : Nat} (h : Below B w W) (hb : B ≤ b) (x y z : Value) : Below B w (((W.setCell ⟨b, 0, none⟩ x).setCell ⟨b, 1, none⟩ y).setCell ⟨b, 2, none⟩ z) := ((h.setCell (p := ⟨b, 0, none⟩) hb _).setCell (p := ⟨b, 1, none⟩) hb _).setCell (p := ⟨b, 2, none⟩) hb _
theorem R_put24 {w W : World} {b i : Nat} {cs : Array Value} {v x : Value} {ys : List Int} (h : Kd.R (Kd.int .u64) 40 W w.heap.size (fun _ => True) v ys) (hb : W.heap[b]? = some (.cells cs 36 (0, 0))) : Kd.R (Kd.int .u64) 40 (W.setCell ⟨b, i, none⟩ x) w.heap.size (fun _ => True) v ys :=
  Kd.R_of_own (own_setCell (Kd.own_of_R h) (fun e => own_ne (Kd.own_of_R h) hb (by decide) e) _) (fun _ _ => trivial)
theorem put3_R {w W : World} {b : Nat} {m n m' n' : Int} {u u' v : Value} {ys : List Int} (h : Kd.R (Kd.int .u64) 40 W w.heap.size (fun _ => True) v ys) (B : MatBox W b m n u) : Kd.R (Kd.int .u64) 40 (((W.setCell ⟨b, 0, none⟩ (.int .i64 m')).setCell ⟨b, 1, none⟩ (.int .i64 n')).setCell ⟨b, 2, none⟩ u') w.heap.size (fun _ => True) v ys :=
  R_put24 (R_put24 (R_put24 h B) (blk_put B 0 _ rfl)) (blk_put (blk_put B 0 _ rfl) 1 _ rfl)
theorem wrap_i64 {x y : Int} (h : wrap64 x = y) : IntKind.i64.wrap x = y := by
  rw [← h]
  simp only [IntKind.wrap, IntKind.signed, IntKind.bits, wrap64]
  simp
  split <;> omega
theorem cut_m {T R gk : Nat} (h : T + gk = R) (h2 : T < R) : gk - 1 < gk := by omega
theorem cut_r {T R gk : Nat} (h : T + gk = R) (h2 : T < R) : T + 1 + (gk - 1) = R := by omega
theorem mb_grown {W W' : World} {b base : Nat} {m n : Int} {z x : Value} {xs : List Int} (B : MatBox W b m n z) (g : W.grownBy W' x.ownBlock) (hx : Kd.R (Kd.int .u64) 40 W base (fun _ => True) x xs) : MatBox W' b m n z := blk_grown B g (own_ne (Kd.own_of_R hx) B (by decide))
def pvIn (m k : Int) : Bool := decide (0 ≤ k ∧ k < m)
def pvOk (m : Int) (s : List Int) : Bool := s.all (pvIn m)
theorem pv_row (m n : Int) (l : List Int) (x : Int) : pivot_row.f m n l x = some (pvIn m x) := by
  unfold pivot_row.f pvIn
  by_cases a : x ≥ 0
  · rw [if_pos a]
    congr 1
    rw [decide_eq_decide]
    omega
  · rw [if_neg a, decide_eq_false (by omega)]
set_option maxHeartbeats 8000000 in
set_option maxRecDepth 100000 in
theorem pv_lit (m n : Int) (A : Option Addr) (c : Nat) (l : List Int) (W : World) (b : Nat) (hb : MatBox W b m n (.slice A l.length c)) (hr : Kd.C (Kd.int .u64) W A l.length l) (hc : l.length ≤ c) (x : Int) :
    Calls Try.prog 61 #[.int .i64 x, .pointer (some ⟨b, 0, none⟩)] W fun e W' => e = .returned (.bool (!(pvIn m x))) ∧ Below W.heap.size W W' := by
  have hu36 := Try.underlying36
  have HR := Aside0.mk hr
  have HC := Aside0.mk hc
  obtain ⟨x0, x1, x2⟩ := matBox_cells hb
  clear hr hc hb
  go_enter Try.func61, Try.ntmps61
  go_wp2_with (first | (go_at_call 44; refine (pivot_row.calls m n A c l x (pvIn m x) _ HR.out HC.out (pv_row m n l x)).mono ?_; rintro e W1 ⟨rfl, hb1⟩))
  go_ret
  exact ⟨rfl, hb1⟩
theorem pv_ok_take {m : Int} {s : List Int} {K : Nat} (h : pvOk m (s.take K) = true) (hK : K < s.length) : pvOk m (s.take (K + 1)) = pvIn m (rd s (K : Int)) := by
  unfold pvOk at *
  rw [List.take_add_one, List.all_append, h, Bool.true_and, List.getElem?_eq_getElem hK]
  unfold rd
  rw [Int.toNat_natCast, List.getD_eq_getElem?_getD, List.getElem?_eq_getElem hK]
  simp
theorem pv_ok_out {m : Int} {s : List Int} {K : Nat} (hK : K < s.length) (h : pvIn m (rd s (K : Int)) = false) : pvOk m s = false := by
  unfold pvOk
  rw [List.all_eq_false]
  unfold rd at h
  rw [Int.toNat_natCast, List.getD_eq_getElem?_getD, List.getElem?_eq_getElem hK] at h
  exact ⟨s[K], List.getElem_mem hK, by rw [Option.getD_some] at h; rw [h]; decide⟩
set_option maxHeartbeats 8000000 in
set_option maxRecDepth 100000 in
theorem pv_index (m n : Int) (A : Option Addr) (c : Nat) (l : List Int) (b : Nat) (A0 : Option Addr) (c0 : Nat) (s : List Int) (w : World) (hb : MatBox w b m n (.slice A l.length c)) (hr : Kd.C (Kd.int .u64) w A l.length l) (hc : l.length ≤ c) (hr0 : Kd.C (Kd.int .i64) w A0 s.length s) (hc0 : s.length ≤ c0) (hm : s.length ≤ 4611686018427387904) :
    Calls Try.prog 65 #[.slice A0 s.length c0, .func (.func 61) #[] #[.pointer (some ⟨b, 0, none⟩)]] w fun e w' => ∃ v : Int, e = .returned (.int .i64 v) ∧ decide (v ≥ 0) = !(pvOk m s) ∧ Below w.heap.size w w' := by
  have HR := Aside0.mk hr
  have HC := Aside0.mk hc
  have HR0 := Aside0.mk hr0
  have HC0 := Aside0.mk hc0
  have HB := Aside0.mk hb
  have HM := Aside0.mk hm
  clear hr hc hr0 hc0 hb hm
  have eg := enters_of Try.func61 (by kernel_rfl) rfl
  go_enter Try.func65, Try.ntmps65
  go_wp2
  go_loopg [5, 8] s.length (fun hk _ v8 wc => ∃ (K : Nat), v8 = .int .i64 K ∧ Aside0 (K + hk = s.length) ∧ Aside0 (pvOk m (s.take K) = true) ∧ Aside0 (Below w.heap.size w wc))
  case atStart => exact ⟨0, rfl, ⟨by omega⟩, ⟨rfl⟩, ⟨Below.refl _ _⟩⟩
  case round =>
    obtain ⟨K, rfl, HJ, HO, HW⟩ := hrel
    by_cases hlt : K < s.length
    · have d0n : decide (K < s.length) = true := decide_eq_true hlt
      have d0 : decide ((K : Int) < (s.length : Int)) = true := decide_eq_true (by omega)
      have HLT := Aside0.mk hlt
      have g1 : 0 ≤ (K : Int) := Int.natCast_nonneg K
      have k1 : (K : Int) < (s.length : Int) := by omega
      obtain ⟨ad, e1, hx1⟩ := Kd.at_int HR0.out (K : Int) g1 k1
      cases e1
      replace hx1 := (HW.out.cell (World.block_lt_of_cell? w _ hx1)).trans hx1
      have hy1 := hx1
      rw [Int.toNat_natCast] at hy1
      replace g1 := eq_true g1
      replace k1 := eq_true k1
      clear hlt
      cases hv : pvIn m (rd s (K : Int)) with
      | true =>
        have HS : Aside0 (wrap64 ((K : Int) + 1) = ((K + 1 : Nat) : Int)) := ⟨by have := HM.out; have := HLT.out; unfold wrap64; omega⟩
        go_wp2_with (fail)
        refine (pv_lit m n A c l wr b (blk_below HB.out HW.out) (Kd.C_below HR.out HW.out) HC.out (rd s (K : Int))).mono ?_
        rintro e w2 ⟨rfl, hb2⟩
        rw [hv]
        go_wp2
        go_roundg (gk - 1)
        case measure => exact cut_m HJ.out HLT.out
        case rel => exact ⟨K + 1, by rw [HS.out], ⟨cut_r HJ.out HLT.out⟩, ⟨by rw [pv_ok_take HO.out HLT.out]; exact hv⟩, ⟨below_then HW.out HW.out.size hb2⟩⟩
      | false =>
        go_wp2_with (fail)
        refine (pv_lit m n A c l wr b (blk_below HB.out HW.out) (Kd.C_below HR.out HW.out) HC.out (rd s (K : Int))).mono ?_
        rintro e w2 ⟨rfl, hb2⟩
        rw [hv]
        go_wp2
        go_ret
        exact ⟨(K : Int), rfl, by rw [pv_ok_out HLT.out hv]; exact decide_eq_true (Int.natCast_nonneg K), below_then HW.out HW.out.size hb2⟩
    · have d0n : decide (K < s.length) = false := decide_eq_false hlt
      have d0 : decide ((K : Int) < (s.length : Int)) = false := decide_eq_false (by omega)
      have e : K = s.length := by have := HJ.out; omega
      have HA := HO.out
      rw [e, List.take_length] at HA
      clear hlt e
      go_wp2
      go_ret
      exact ⟨-1, rfl, by rw [HA]; rfl, HW.out⟩
set_option maxHeartbeats 8000000 in
set_option maxRecDepth 100000 in
theorem pv_contains (m n : Int) (A : Option Addr) (c : Nat) (l : List Int) (b : Nat) (A0 : Option Addr) (c0 : Nat) (s : List Int) (w : World) (hb : MatBox w b m n (.slice A l.length c)) (hr : Kd.C (Kd.int .u64) w A l.length l) (hc : l.length ≤ c) (hr0 : Kd.C (Kd.int .i64) w A0 s.length s) (hc0 : s.length ≤ c0) (hm : s.length ≤ 4611686018427387904) :
    Calls Try.prog 60 #[.slice A0 s.length c0, .func (.func 61) #[] #[.pointer (some ⟨b, 0, none⟩)]] w fun e w' => e = .returned (.bool (!(pvOk m s))) ∧ Below w.heap.size w w' := by
  have HR := Aside0.mk hr
  have HC := Aside0.mk hc
  have HR0 := Aside0.mk hr0
  have HC0 := Aside0.mk hc0
  have HB := Aside0.mk hb
  have HM := Aside0.mk hm
  clear hr hc hr0 hc0 hb hm
  go_enter Try.func60, Try.ntmps60
  go_wp2_with (first | (go_at_call 65; refine (pv_index m n A c l b A0 c0 s _ HB.out HR.out HC.out HR0.out HC0.out HM.out).mono ?_; rintro e w1 ⟨v, rfl, hv, hb1⟩))
  go_ret
  exact ⟨by rw [← hv]; rfl, hb1⟩
def pvReady (m t : Int) (s : List Int) : Int := if t ≠ 0 then t else if (s.length : Int) > m ∨ pvOk m s = false then 4 else 0
set_option maxHeartbeats 8000000 in
set_option maxRecDepth 100000 in
theorem pv_ready (m n : Int) (A : Option Addr) (c : Nat) (l : List Int) (A0 : Option Addr) (c0 : Nat) (s : List Int) (t : Int) (w : World) (hr : Kd.C (Kd.int .u64) w A l.length l) (hc : l.length ≤ c) (hr0 : Kd.C (Kd.int .i64) w A0 s.length s) (hc0 : s.length ≤ c0) (hm : s.length ≤ 4611686018427387904) (ht : shape_Check.f m n l = some t) :
    Calls Try.prog 55 #[.agg #[.int .i64 m, .int .i64 n, .slice A l.length c], .slice A0 s.length c0] w fun e w' => e = .returned (.int .i64 (pvReady m t s)) ∧ Below w.heap.size w w' := by
  have hu36 := Try.underlying36
  have HR := Aside0.mk hr
  have HC := Aside0.mk hc
  have HR0 := Aside0.mk hr0
  have HC0 := Aside0.mk hc0
  have HM := Aside0.mk hm
  have HT := Aside0.mk ht
  have B0 := Aside0.mk (blk_new w (.cells #[.int .i64 m, .int .i64 n, .slice A l.length c] 36))
  have I0 := Aside0.mk (below_alloc (Below.refl w.heap.size w) (.cells #[.int .i64 m, .int .i64 n, .slice A l.length c] 36))
  clear hr hc hr0 hc0 hm ht
  go_enter Try.func55, Try.ntmps55
  go_upto_region 2 with (first | (go_at_call 34; refine (shape_Check.calls m n A c l t _ (Kd.C_below HR.out I0.out) HC.out HT.out).mono ?_; rintro e W1 ⟨rfl, hb1⟩; have I1 := Aside0.mk (below_then I0.out I0.out.size hb1); have B1 := Aside0.mk (show MatBox W1 w.heap.size m n (.slice A l.length c) from blk_below B0.out hb1); clear hb1))
  obtain ⟨x0, x1, x2⟩ := matBox_cells B1.out
  by_cases ht0 : t = 0
  · subst ht0
    by_cases h1 : (s.length : Int) > m
    · have d1 : decide ((s.length : Int) > m) = true := decide_eq_true h1
      have hR : pvReady m 0 s = 4 := by unfold pvReady; rw [if_neg (by decide), if_pos (.inl h1)]
      clear h1
      go_wp2
      go_ret
      exact ⟨by rw [hR]; rfl, I1.out⟩
    · have d1 : decide ((s.length : Int) > m) = false := decide_eq_false h1
      cases hv : pvOk m s with
      | true =>
        have hR : pvReady m 0 s = 0 := by unfold pvReady; rw [if_neg (by decide), if_neg (by rw [hv]; simp; omega)]
        clear h1
        go_wp2_with (first | (go_at_call 60; refine (pv_contains m n A c l w.heap.size A0 c0 s _ B1.out (Kd.C_below HR.out I1.out) HC.out (Kd.C_below HR0.out I1.out) HC0.out HM.out).mono ?_; rintro e W2 ⟨rfl, hb2⟩; rw [hv]))
        go_ret
        exact ⟨by rw [hR]; rfl, below_then I1.out I1.out.size hb2⟩
      | false =>
        have hR : pvReady m 0 s = 4 := by unfold pvReady; rw [if_neg (by decide), if_pos (.inr hv)]
        clear h1
        go_wp2_with (first | (go_at_call 60; refine (pv_contains m n A c l w.heap.size A0 c0 s _ B1.out (Kd.C_below HR.out I1.out) HC.out (Kd.C_below HR0.out I1.out) HC0.out HM.out).mono ?_; rintro e W2 ⟨rfl, hb2⟩; rw [hv]))
        go_ret
        exact ⟨by rw [hR]; rfl, below_then I1.out I1.out.size hb2⟩
  · have hbt : (t != 0) = true := by simpa using ht0
    have hR : pvReady m t s = t := by unfold pvReady; rw [if_pos ht0]
    clear ht0
    go_wp2
    go_ret
    exact ⟨by rw [hR]; rfl, I1.out⟩
end Go.Proofs.Ytceghmceoliplaa.Pv
