/- The walk of ArenaLends. No condition. -/
import Derived.Test.YtceghmceoliplaaProg
import Derived.Below
import Derived.Deep.Draws
import Derived.Deep.AppendLies
import Derived.Maps.AppendAt
import Derived.OwnWalk
import Derived.Laws.BytesArg
import Derived.Laws.MakeOwn
import Derived.Laws.OwnMore
import Derived.Deep.OwnRows
import Derived.Tactics
import Derived.Lib.ConvBytes
import Derived.Laws.Slices
import Derived.WalkKit
import Derived.KernelRfl
import Derived.RowKit3
import Derived.Deep.LoopGhost
import Derived.Deep.QuietTactic
import Derived.BigQuiet
import Derived.WideLaws
import Derived.Deep.DeepCutAuto
import Derived.Deep.CutBlock
import Derived.Deep.RegionHeld3
import Derived.Laws.Rows
import Derived.Lib.AppendStr
import Derived.ArgAppend
import Derived.Laws.IdiomCopy
import Derived.OrdersHeld
import Derived.Laws.BitsLemmas
import Derived.RowKit
import Derived.Test.YtceghmceoliplaaWWords
import Derived.Test.YtceghmceoliplaaWLast
import Derived.Test.YtceghmceoliplaaWTab
import Derived.Test.YtceghmceoliplaaWFour
import Derived.Test.YtceghmceoliplaaWQPut
import Derived.Test.YtceghmceoliplaaWApart
import Derived.Test.YtceghmceoliplaaWArr
import Derived.Test.YtceghmceoliplaaWZeros
import Derived.Test.YtceghmceoliplaaWFoot
import Derived.Test.YtceghmceoliplaaWKept
import Derived.Test.YtceghmceoliplaaWShare
import Derived.Test.YtceghmceoliplaaWN
import Derived.Test.YtceghmceoliplaaWFootNe
import Derived.Test.YtceghmceoliplaaWAt
import Derived.Test.YtceghmceoliplaaWEqStruct
import Derived.Test.YtceghmceoliplaaWRepsOne
import Derived.Test.YtceghmceoliplaaWInv
import Derived.Test.YtceghmceoliplaaWInvWords
import Derived.Test.YtceghmceoliplaaWGuard
import Derived.Test.YtceghmceoliplaaWNEv
import Derived.Test.YtceghmceoliplaaWMore
import Derived.Test.YtceghmceoliplaaArD
namespace Go.Proofs.Ytceghmceoliplaa.Ar
open Go.RowKit Go.Proofs.YtceghmceoliplaaW.PrintWords Go.Proofs.YtceghmceoliplaaW.PrintLast Go.Proofs.YtceghmceoliplaaW.PrintMore
attribute [local go_sem] max2_int min2_int max_two min_two max_three min_three max_four min_four
set_option linter.unusedVariables false
set_option linter.unusedSimpArgs false
def OkV (r c s o : Int) : Prop := r ≥ 0 ∧ r ≤ 64 ∧ c ≥ 0 ∧ c ≤ 64 ∧ s = c ∧ o ≥ 0 ∧ o ≤ 20 ∧ r * c ≤ 20 - o
instance (r c s o : Int) : Decidable (OkV r c s o) := by unfold OkV; infer_instance
theorem prod_nat {r c : Int} (hr : 0 ≤ r ∧ r ≤ 64) (hc : 0 ≤ c ∧ c ≤ 64) : ∃ X : Nat, r * c = (X : Int) ∧ X ≤ 4096 := by
  obtain ⟨X, hX⟩ := Int.eq_ofNat_of_zero_le (Int.mul_nonneg hr.1 hc.1)
  have := Int.mul_le_mul hr.2 hc.2 hc.1 (by omega : (0 : Int) ≤ 64)
  exact ⟨X, hX, by omega⟩
theorem ar_lendV {w : World} {p g : Nat} {l : List Int} {high r c s o : Int} (h : ArAt w p g l 20 high) (hl : l.length = 50) :
    Calls Try.prog 27 #[.pointer (some ⟨p, 0, none⟩), .agg #[.int .i64 r, .int .i64 c, .int .i64 s, .int .i64 o]] w fun e w' => (∃ (A : Option Addr) (N C : Nat), e = .returned (.slice A N C) ∧ (OkV r c s o → (N : Int) = r * c) ∧ (¬ OkV r c s o → N = 0)) ∧ Below w.heap.size w w' := by
  by_cases hb : r < 0 ∨ r > 64 ∨ c < 0 ∨ c > 64 ∨ s ≠ c ∨ o < 0 ∨ o > 20
  · refine (ar_lend_bad h hb).mono ?_
    rintro e w' ⟨rfl, h2⟩
    exact ⟨⟨none, 0, 0, rfl, fun q => by unfold OkV at q; omega, fun _ => rfl⟩, h2⟩
  · obtain ⟨X, hX, hX1⟩ := prod_nat (r := r) (c := c) (by omega) (by omega)
    have hs : s = c := by omega
    by_cases h7 : (X : Int) ≤ 20 - o
    · subst hs
      refine (ar_lendX (X := X) h (by omega) (by omega) (by omega) hX h7 (by omega) (by omega)).mono ?_
      rintro e w' ⟨⟨F, rfl, _⟩, h2⟩
      exact ⟨⟨_, X, X, rfl, fun _ => hX.symm, fun q => (q ⟨by omega, by omega, by omega, by omega, rfl, by omega, by omega, by omega⟩).elim⟩, h2⟩
    · refine (ar_lend_big h (by omega) (by omega) hs (by omega) (by omega) (by omega) (by omega)).mono ?_
      rintro e w' ⟨rfl, h2⟩
      exact ⟨⟨none, 0, 0, rfl, fun q => by have := q.2.2.2.2.2.2.2; omega, fun _ => rfl⟩, h2⟩
theorem six_right {a b c d e f : Prop} (h : a ∧ b ∧ c ∧ d ∧ e ∧ f) : f := h.2.2.2.2.2
def LInv (w : World) (zb : Nat) (vb : Obj) (W : World) : Prop :=
  Below w.heap.size w W ∧ W.heap[zb]? = some (.cells #[.slice none 0 0, .int .i64 0, .int .i64 0, .bool false] 57 (0, 0)) ∧ W.heap[zb + 1]? = some (.cells #[.pointer none, .pointer (some ⟨zb, 0, none⟩)] 43 (0, 0)) ∧ W.heap[w.heap.size]? = some vb
theorem LInv.below {w : World} {zb : Nat} {vb : Obj} {W W' : World} (h : LInv w zb vb W) (k : Below W.heap.size W W') : LInv w zb vb W' := ⟨below_then h.1 h.1.size k, blk_below h.2.1 k, blk_below h.2.2.1 k, blk_below h.2.2.2 k⟩
theorem LInv.start {w W : World} {vb : Obj} (h : Below w.heap.size w W) (k : W.heap[w.heap.size]? = some vb) :
    LInv w W.heap.size vb ((W.alloc (.cells #[.slice none 0 0, .int .i64 0, .int .i64 0, .bool false] 57)).alloc (.cells #[.pointer none, .pointer (some ⟨W.heap.size, 0, none⟩)] 43)) :=
  ⟨(h.alloc h.size _).alloc (Nat.le_trans h.size (by simp)) _, heap_alloc2_old W _ _, heap_alloc2_new W _ _, (Below.heap_alloc _ _ _ (by have := blk_lt k; simp; omega)).trans ((Below.heap_alloc W _ _ (blk_lt k)).trans k)⟩
theorem LInv.at {w : World} {zb : Nat} {vb : Obj} {W : World} (h : LInv w zb vb W) (j : Int) (h0 : 0 ≤ j) (h1 : j < 2) : ∃ q, W.cell? ⟨zb + 1, j.toNat, none⟩ = some (.pointer q) ∧ DeadAr W q := by
  have hj : j.toNat = 0 ∨ j.toNat = 1 := by omega
  rcases hj with e | e
  · exact ⟨none, by rw [e]; exact (blk_cell h.2.2.1 0).trans rfl, .inl rfl⟩
  · exact ⟨some ⟨zb, 0, none⟩, by rw [e]; exact (blk_cell h.2.2.1 1).trans rfl, .inr ⟨zb, _, _, _, rfl, h.2.1⟩⟩
set_option maxHeartbeats 8000000 in
set_option maxRecDepth 100000 in
theorem ArenaLends_walk (w : World) (r c s o : Int) (wr : (Lit.int .i64 r).wf = true) (wc : (Lit.int .i64 c).wf = true) (ws : (Lit.int .i64 s).wf = true) (wo : (Lit.int .i64 o).wf = true) (n : Int) (wn : (Lit.int .i64 n).wf = true) :
    Calls Try.prog 7 #[.agg #[.int .i64 r, .int .i64 c, .int .i64 s, .int .i64 o], .int .i64 n] w fun e w' => e = .returned (.bool true) ∧ Below w.heap.size w w' := by
  have BK0 := Aside0.mk (blk_new w (.cells #[.int .i64 r, .int .i64 c, .int .i64 s, .int .i64 o] 48))
  have HB0 := Aside0.mk (below_alloc (Below.refl _ w) (.cells #[.int .i64 r, .int .i64 c, .int .i64 s, .int .i64 o] 48))
  go_enter Try.func7, Try.ntmps7
  go_wp2_with (first
    | (go_at_call 24; generalize w.alloc (.cells #[.int .i64 r, .int .i64 c, .int .i64 s, .int .i64 o] 48) = W0 at *; refine (ar_alive _).mono ?_; rintro e W1 ⟨rfl, hb1⟩; have HB1 := Aside0.mk (below_then HB0.out HB0.out.size hb1); have BK1 := Aside0.mk (blk_below BK0.out hb1); clear hb1)
    | (go_at_call 25; refine (ar_new _ 50 50 (by omega)).mono ?_; rintro e W2 ⟨rfl, h1, hb2⟩; obtain ⟨p, hp⟩ : ∃ p, p = W1.heap.size + 1 := ⟨_, rfl⟩; obtain ⟨g, hg⟩ : ∃ g, g = W1.heap.size := ⟨_, rfl⟩; rw [← hp] at h1 ⊢; rw [← hg] at h1; have HA := Aside0.mk h1; have HB2 := Aside0.mk (below_then HB1.out HB1.out.size hb2); have BK2 := Aside0.mk (blk_below BK1.out hb2); have HP : Aside0 (w.heap.size ≤ p ∧ w.heap.size ≤ g) := ⟨by rw [hp, hg]; have := HB1.out.size; omega⟩; have NE : Aside0 (w.heap.size ≠ p ∧ w.heap.size ≠ g) := ⟨by rw [hp, hg]; have := blk_lt BK1.out; omega⟩; clear h1 hb2 hp hg)
    | (go_at_call 26; refine (ar_takeX (X := 20) (y := 20) (z := 20) HA.out (by omega) (by omega) (by omega) (by omega) (by omega) (by decide) (by simp) (by simp)).mono ?_; rintro e W3 ⟨rfl, h3, f3⟩; obtain ⟨l3, hl3⟩ : ∃ l, l = wiped (List.replicate 50 0) (0 : Int).toNat 20 := ⟨_, rfl⟩; rw [← hl3] at h3; have HL3 : Aside0 (l3.length = 50) := ⟨by rw [hl3, wiped_len _ _ _ (by simp)]; simp⟩; have HA3 := Aside0.mk h3; have HB3 := Aside0.mk (HB2.out.trans (f3.outer HP.out.1 HP.out.2 HB2.out.size)); have BK3 := Aside0.mk ((f3.block _ (blk_lt BK2.out) NE.out.1 NE.out.2).trans BK2.out); have k0 : W3.cell? ⟨w.heap.size, 0, none⟩ = some (.int .i64 r) := (blk_cell BK3.out 0).trans rfl; have k1 : W3.cell? ⟨w.heap.size, 1, none⟩ = some (.int .i64 c) := (blk_cell BK3.out 1).trans rfl; have k2 : W3.cell? ⟨w.heap.size, 2, none⟩ = some (.int .i64 s) := (blk_cell BK3.out 2).trans rfl; have k3 : W3.cell? ⟨w.heap.size, 3, none⟩ = some (.int .i64 o) := (blk_cell BK3.out 3).trans rfl; clear h3 f3 hl3 HA))
  refine (ar_lendV HA3.out HL3.out).mono ?_
  rintro e W4 ⟨⟨LA, LN, LC, rfl, hL1, hL2⟩, hb4⟩
  have HV1 := Aside0.mk hL1
  have HV2 := Aside0.mk hL2
  have HB4 := Aside0.mk (below_then HB3.out HB3.out.size hb4)
  have BK4 := Aside0.mk (blk_below BK3.out hb4)
  have k0 : W4.cell? ⟨w.heap.size, 0, none⟩ = some (.int .i64 r) := (blk_cell BK4.out 0).trans rfl
  have k1 : W4.cell? ⟨w.heap.size, 1, none⟩ = some (.int .i64 c) := (blk_cell BK4.out 1).trans rfl
  have k2 : W4.cell? ⟨w.heap.size, 2, none⟩ = some (.int .i64 s) := (blk_cell BK4.out 2).trans rfl
  have k3 : W4.cell? ⟨w.heap.size, 3, none⟩ = some (.int .i64 o) := (blk_cell BK4.out 3).trans rfl
  clear hb4 hL1 hL2
  go_upto_region 6 with (fail)
  go_cut [7] from 21 (fun v7 wc => ∃ (okb : Bool), v7 = .bool okb ∧ Aside0 (okb = decide (OkV r c s o)) ∧ W4 = wc)
  case first =>
    by_cases h0 : r ≥ 0
    · have b0 : decide (r ≥ 0) = true := decide_eq_true h0
      by_cases h1 : r ≤ 64
      · have b1 : decide (r ≤ 64) = true := decide_eq_true h1
        by_cases h2 : c ≥ 0
        · have b2 : decide (c ≥ 0) = true := decide_eq_true h2
          by_cases h3 : c ≤ 64
          · have b3 : decide (c ≤ 64) = true := decide_eq_true h3
            by_cases h4 : s = c
            · have b4 : (s == c) = true := beq_iff_eq.mpr h4
              by_cases h5 : o ≥ 0
              · have b5 : decide (o ≥ 0) = true := decide_eq_true h5
                by_cases h6 : o ≤ 20
                · have b6 : decide (o ≤ 20) = true := decide_eq_true h6
                  obtain ⟨X, hX, hX1⟩ := prod_nat ⟨h0, h1⟩ ⟨h2, h3⟩
                  have m1 : wrap64 (r * c) = (X : Int) := by rw [hX]; unfold wrap64; omega
                  have m2 : wrap64 (20 - o) = 20 - o := by unfold wrap64; omega
                  by_cases h7 : (X : Int) ≤ 20 - o
                  · have b7 : decide ((X : Int) ≤ 20 - o) = true := decide_eq_true h7
                    have HV : Aside0 (OkV r c s o) := ⟨h0, h1, h2, h3, h4, h5, h6, by rw [hX]; exact h7⟩
                    clear h0 h1 h2 h3 h4 h5 h6 h7 hX hX1
                    go_wp2
                    go_meet
                    case rel => exact ⟨_, rfl, ⟨(decide_eq_true HV.out).symm⟩, rfl⟩
                  · have b7 : decide ((X : Int) ≤ 20 - o) = false := decide_eq_false h7
                    have HV : Aside0 (¬ OkV r c s o) := ⟨fun h => h7 (by rw [← hX]; exact h.2.2.2.2.2.2.2)⟩
                    clear h0 h1 h2 h3 h4 h5 h6 h7 hX hX1
                    go_wp2
                    go_meet
                    case rel => exact ⟨_, rfl, ⟨(decide_eq_false HV.out).symm⟩, rfl⟩
                · have b6 : decide (o ≤ 20) = false := decide_eq_false h6
                  have HV : Aside0 (¬ OkV r c s o) := ⟨fun h => h6 h.2.2.2.2.2.2.1⟩
                  clear h0 h1 h2 h3 h4 h5 h6
                  go_wp2
                  go_meet
                  case rel => exact ⟨_, rfl, ⟨(decide_eq_false HV.out).symm⟩, rfl⟩
              · have b5 : decide (o ≥ 0) = false := decide_eq_false h5
                have HV : Aside0 (¬ OkV r c s o) := ⟨fun h => h5 h.2.2.2.2.2.1⟩
                clear h0 h1 h2 h3 h4 h5
                go_wp2
                go_meet
                case rel => exact ⟨_, rfl, ⟨(decide_eq_false HV.out).symm⟩, rfl⟩
            · have b4 : (s == c) = false := beq_eq_false_iff_ne.mpr h4
              have HV : Aside0 (¬ OkV r c s o) := ⟨fun h => h4 h.2.2.2.2.1⟩
              clear h0 h1 h2 h3 h4
              go_wp2
              go_meet
              case rel => exact ⟨_, rfl, ⟨(decide_eq_false HV.out).symm⟩, rfl⟩
          · have b3 : decide (c ≤ 64) = false := decide_eq_false h3
            have HV : Aside0 (¬ OkV r c s o) := ⟨fun h => h3 h.2.2.2.1⟩
            clear h0 h1 h2 h3
            go_wp2
            go_meet
            case rel => exact ⟨_, rfl, ⟨(decide_eq_false HV.out).symm⟩, rfl⟩
        · have b2 : decide (c ≥ 0) = false := decide_eq_false h2
          have HV : Aside0 (¬ OkV r c s o) := ⟨fun h => h2 h.2.2.1⟩
          clear h0 h1 h2
          go_wp2
          go_meet
          case rel => exact ⟨_, rfl, ⟨(decide_eq_false HV.out).symm⟩, rfl⟩
      · have b1 : decide (r ≤ 64) = false := decide_eq_false h1
        have HV : Aside0 (¬ OkV r c s o) := ⟨fun h => h1 h.2.1⟩
        clear h0 h1
        go_wp2
        go_meet
        case rel => exact ⟨_, rfl, ⟨(decide_eq_false HV.out).symm⟩, rfl⟩
    · have b0 : decide (r ≥ 0) = false := decide_eq_false h0
      have HV : Aside0 (¬ OkV r c s o) := ⟨fun h => h0 h.1⟩
      clear h0
      go_wp2
      go_meet
      case rel => exact ⟨_, rfl, ⟨(decide_eq_false HV.out).symm⟩, rfl⟩
  case rest =>
    obtain ⟨okb, rfl, HO, rfl⟩ := hcut
    cases okb with
    | true =>
      have HV : OkV r c s o := of_decide_eq_true HO.out.symm
      have m1 : wrap64 (r * c) = (LN : Int) := by
        have := HV1.out HV
        have := HV.2.2.2.2.2.2.2
        have := HV.2.2.2.2.2.1
        have := HV.1
        unfold wrap64; omega
      clear HV HO HV1 HV2
      as_aux_lemma =>
      go_wp2
      have LI0 := Aside0.mk (LInv.start (w := w) (W := W4) (vb := (.cells #[.int .i64 r, .int .i64 c, .int .i64 s, .int .i64 o] 48)) HB4.out BK4.out)
      clear HB4 BK4 HB0 HB1 HB2 HB3 BK0 BK1 BK2 BK3 HA3
      clear k0 k1 k2 k3
      (try clear m1)
      go_loopg [10] 2 (fun hk v10 wc => ∃ (j : Int), v10 = .int .i64 j ∧ Aside0 (0 ≤ j ∧ j + hk = 2) ∧ Aside0 (LInv w W4.heap.size (.cells #[.int .i64 r, .int .i64 c, .int .i64 s, .int .i64 o] 48) wc))
      case atStart => exact ⟨0, rfl, ⟨by omega, by omega⟩, LI0⟩
      case round =>
        clear LI0
        obtain ⟨j, rfl, HJ, LI⟩ := hrel
        by_cases hj : j < 2
        · have d0 : decide (j < 2) = true := decide_eq_true hj
          obtain ⟨q, hq, hD⟩ := LI.out.at j HJ.out.1 hj
          have HD := Aside0.mk hD
          have p3 : (0 ≤ j) = True := eq_true HJ.out.1
          have p4 : (j < 2) = True := eq_true hj
          have HJ2 := Aside0.mk hj
          clear hj hD
          go_wp2_with (first
            | (go_at_call 26; refine (dead_take HD.out).mono ?_; rintro e W7 ⟨rfl, hb7⟩; have LI7 := Aside0.mk (LI.out.below hb7); have HD7 := Aside0.mk (HD.out.below hb7); have hq7 := Aside0.mk (pw_cell_below hb7 hq); clear hb7))
          have LI8 := Aside0.mk (LI7.out.below (below_alloc (Below.refl _ W7) (.cells #[.int .i64 0, .int .i64 0, .int .i64 0, .int .i64 0] 48)))
          have HD8 := Aside0.mk (HD7.out.below (below_alloc (Below.refl _ W7) (.cells #[.int .i64 0, .int .i64 0, .int .i64 0, .int .i64 0] 48)))
          have hq8 := Aside0.mk (pw_cell_below (below_alloc (Below.refl _ W7) (.cells #[.int .i64 0, .int .i64 0, .int .i64 0, .int .i64 0] 48)) hq7.out)
          generalize W7.alloc (.cells #[.int .i64 0, .int .i64 0, .int .i64 0, .int .i64 0] 48) = W8 at *
          have KS : Aside0 (∀ w', Below W8.heap.size W8 w' → w'.cell? ⟨W4.heap.size + 1, j.toNat, none⟩ = some (.pointer q) ∧ w'.cell? ⟨w.heap.size, 0, none⟩ = some (.int .i64 r) ∧ w'.cell? ⟨w.heap.size, 1, none⟩ = some (.int .i64 c) ∧ w'.cell? ⟨w.heap.size, 2, none⟩ = some (.int .i64 s) ∧ w'.cell? ⟨w.heap.size, 3, none⟩ = some (.int .i64 o) ∧ Below W8.heap.size W8 w') := ⟨fun w' hb => ⟨pw_cell_below hb hq8.out, (blk_cell (LI8.out.below hb).2.2.2 0).trans rfl, (blk_cell (LI8.out.below hb).2.2.2 1).trans rfl, (blk_cell (LI8.out.below hb).2.2.2 2).trans rfl, (blk_cell (LI8.out.below hb).2.2.2 3).trans rfl, hb⟩⟩
          clear hq LI7 HD7 hq7 HD
          go_region_held3 (fun w' => w'.cell? ⟨W4.heap.size + 1, j.toNat, none⟩ = some (.pointer q) ∧ w'.cell? ⟨w.heap.size, 0, none⟩ = some (.int .i64 r) ∧ w'.cell? ⟨w.heap.size, 1, none⟩ = some (.int .i64 c) ∧ w'.cell? ⟨w.heap.size, 2, none⟩ = some (.int .i64 s) ∧ w'.cell? ⟨w.heap.size, 3, none⟩ = some (.int .i64 o) ∧ Below W8.heap.size W8 w') (exact KS.out _ (by first | exact below_drew (Below.refl _ _) | assumption)) (first | (go_at_call 28; refine (dead_release (HD8.out.below (by first | assumption | (apply six_right; assumption)))).mono ?_; rintro e w9 ⟨rfl, rfl⟩) | (go_at_call 30; refine (dead_mark (HD8.out.below (by first | assumption | (apply six_right; assumption)))).mono ?_; rintro e w9 ⟨rfl, rfl⟩) | (go_at_call 31; refine (dead_high (HD8.out.below (by first | assumption | (apply six_right; assumption)))).mono ?_; rintro e w9 ⟨rfl, rfl⟩) | (go_at_call 32; refine (dead_left (HD8.out.below (by first | assumption | (apply six_right; assumption)))).mono ?_; rintro e w9 ⟨rfl, rfl⟩) | (go_at_call 29; refine (dead_words (HD8.out.below (by first | assumption | (apply six_right; assumption)))).mono ?_; rintro e w9 ⟨rfl, rfl⟩) | (go_at_call 27; refine (dead_lend (HD8.out.below (by first | assumption | (apply six_right; assumption)))).mono ?_; rintro e w9 ⟨rfl, hb9⟩; have hb9 := below_then (by first | assumption | (apply six_right; assumption) : Below W8.heap.size W8 _) (Below.size (by first | assumption | (apply six_right; assumption) : Below W8.heap.size W8 _)) hb9))
          have LI9 := Aside0.mk (LI8.out.below hb9)
          clear hb9
          go_wp2
          go_roundg (gk - 1)
          case measure => have := HJ.out; have := HJ2.out; omega
          case rel => exact ⟨wrap64 (j + 1), rfl, ⟨by have := HJ.out; have := HJ2.out; unfold wrap64; omega⟩, LI9⟩
        · have d0 : decide (j < 2) = false := decide_eq_false hj
          clear hj
          go_wp2
          go_ret
          exact ⟨rfl, LI.out.1⟩
    | false =>
      have hN : LN = 0 := HV2.out (of_decide_eq_false HO.out.symm)
      subst hN
      clear HO HV1 HV2
      as_aux_lemma =>
      go_wp2
      have LI0 := Aside0.mk (LInv.start (w := w) (W := W4) (vb := (.cells #[.int .i64 r, .int .i64 c, .int .i64 s, .int .i64 o] 48)) HB4.out BK4.out)
      clear HB4 BK4 HB0 HB1 HB2 HB3 BK0 BK1 BK2 BK3 HA3
      clear k0 k1 k2 k3
      (try clear m1)
      go_loopg [10] 2 (fun hk v10 wc => ∃ (j : Int), v10 = .int .i64 j ∧ Aside0 (0 ≤ j ∧ j + hk = 2) ∧ Aside0 (LInv w W4.heap.size (.cells #[.int .i64 r, .int .i64 c, .int .i64 s, .int .i64 o] 48) wc))
      case atStart => exact ⟨0, rfl, ⟨by omega, by omega⟩, LI0⟩
      case round =>
        clear LI0
        obtain ⟨j, rfl, HJ, LI⟩ := hrel
        by_cases hj : j < 2
        · have d0 : decide (j < 2) = true := decide_eq_true hj
          obtain ⟨q, hq, hD⟩ := LI.out.at j HJ.out.1 hj
          have HD := Aside0.mk hD
          have p3 : (0 ≤ j) = True := eq_true HJ.out.1
          have p4 : (j < 2) = True := eq_true hj
          have HJ2 := Aside0.mk hj
          clear hj hD
          go_wp2_with (first
            | (go_at_call 26; refine (dead_take HD.out).mono ?_; rintro e W7 ⟨rfl, hb7⟩; have LI7 := Aside0.mk (LI.out.below hb7); have HD7 := Aside0.mk (HD.out.below hb7); have hq7 := Aside0.mk (pw_cell_below hb7 hq); clear hb7))
          have LI8 := Aside0.mk (LI7.out.below (below_alloc (Below.refl _ W7) (.cells #[.int .i64 0, .int .i64 0, .int .i64 0, .int .i64 0] 48)))
          have HD8 := Aside0.mk (HD7.out.below (below_alloc (Below.refl _ W7) (.cells #[.int .i64 0, .int .i64 0, .int .i64 0, .int .i64 0] 48)))
          have hq8 := Aside0.mk (pw_cell_below (below_alloc (Below.refl _ W7) (.cells #[.int .i64 0, .int .i64 0, .int .i64 0, .int .i64 0] 48)) hq7.out)
          generalize W7.alloc (.cells #[.int .i64 0, .int .i64 0, .int .i64 0, .int .i64 0] 48) = W8 at *
          have KS : Aside0 (∀ w', Below W8.heap.size W8 w' → w'.cell? ⟨W4.heap.size + 1, j.toNat, none⟩ = some (.pointer q) ∧ w'.cell? ⟨w.heap.size, 0, none⟩ = some (.int .i64 r) ∧ w'.cell? ⟨w.heap.size, 1, none⟩ = some (.int .i64 c) ∧ w'.cell? ⟨w.heap.size, 2, none⟩ = some (.int .i64 s) ∧ w'.cell? ⟨w.heap.size, 3, none⟩ = some (.int .i64 o) ∧ Below W8.heap.size W8 w') := ⟨fun w' hb => ⟨pw_cell_below hb hq8.out, (blk_cell (LI8.out.below hb).2.2.2 0).trans rfl, (blk_cell (LI8.out.below hb).2.2.2 1).trans rfl, (blk_cell (LI8.out.below hb).2.2.2 2).trans rfl, (blk_cell (LI8.out.below hb).2.2.2 3).trans rfl, hb⟩⟩
          clear hq LI7 HD7 hq7 HD
          go_region_held3 (fun w' => w'.cell? ⟨W4.heap.size + 1, j.toNat, none⟩ = some (.pointer q) ∧ w'.cell? ⟨w.heap.size, 0, none⟩ = some (.int .i64 r) ∧ w'.cell? ⟨w.heap.size, 1, none⟩ = some (.int .i64 c) ∧ w'.cell? ⟨w.heap.size, 2, none⟩ = some (.int .i64 s) ∧ w'.cell? ⟨w.heap.size, 3, none⟩ = some (.int .i64 o) ∧ Below W8.heap.size W8 w') (exact KS.out _ (by first | exact below_drew (Below.refl _ _) | assumption)) (first | (go_at_call 28; refine (dead_release (HD8.out.below (by first | assumption | (apply six_right; assumption)))).mono ?_; rintro e w9 ⟨rfl, rfl⟩) | (go_at_call 30; refine (dead_mark (HD8.out.below (by first | assumption | (apply six_right; assumption)))).mono ?_; rintro e w9 ⟨rfl, rfl⟩) | (go_at_call 31; refine (dead_high (HD8.out.below (by first | assumption | (apply six_right; assumption)))).mono ?_; rintro e w9 ⟨rfl, rfl⟩) | (go_at_call 32; refine (dead_left (HD8.out.below (by first | assumption | (apply six_right; assumption)))).mono ?_; rintro e w9 ⟨rfl, rfl⟩) | (go_at_call 29; refine (dead_words (HD8.out.below (by first | assumption | (apply six_right; assumption)))).mono ?_; rintro e w9 ⟨rfl, rfl⟩) | (go_at_call 27; refine (dead_lend (HD8.out.below (by first | assumption | (apply six_right; assumption)))).mono ?_; rintro e w9 ⟨rfl, hb9⟩; have hb9 := below_then (by first | assumption | (apply six_right; assumption) : Below W8.heap.size W8 _) (Below.size (by first | assumption | (apply six_right; assumption) : Below W8.heap.size W8 _)) hb9))
          have LI9 := Aside0.mk (LI8.out.below hb9)
          clear hb9
          go_wp2
          go_roundg (gk - 1)
          case measure => have := HJ.out; have := HJ2.out; omega
          case rel => exact ⟨wrap64 (j + 1), rfl, ⟨by have := HJ.out; have := HJ2.out; unfold wrap64; omega⟩, LI9⟩
        · have d0 : decide (j < 2) = false := decide_eq_false hj
          clear hj
          go_wp2
          go_ret
          exact ⟨rfl, LI.out.1⟩
end Go.Proofs.Ytceghmceoliplaa.Ar
