/- The walk of ArenaRuns. No condition. -/
import Derived.Test.YtceghmceoliplaaProg
import Derived.Below
import Derived.Deep.Draws
import Derived.Deep.AppendLies
import Derived.Maps.AppendAt
import Derived.OwnWalk
import Derived.Laws.BytesArg
import Derived.Laws.MakeOwn
import Derived.Laws.OwnMore
import Derived.Deep.OwnRows
import Derived.Tactics
import Derived.Lib.ConvBytes
import Derived.Laws.Slices
import Derived.WalkKit
import Derived.KernelRfl
import Derived.RowKit3
import Derived.Deep.LoopGhost
import Derived.Deep.QuietTactic
import Derived.BigQuiet
import Derived.WideLaws
import Derived.Deep.DeepCutAuto
import Derived.Deep.CutBlock
import Derived.Deep.RegionHeld3
import Derived.Laws.Rows
import Derived.Lib.AppendStr
import Derived.ArgAppend
import Derived.Laws.IdiomCopy
import Derived.OrdersHeld
import Derived.Laws.BitsLemmas
import Derived.RowKit
import Derived.Test.YtceghmceoliplaaWWords
import Derived.Test.YtceghmceoliplaaWLast
import Derived.Test.YtceghmceoliplaaWTab
import Derived.Test.YtceghmceoliplaaWFour
import Derived.Test.YtceghmceoliplaaWQPut
import Derived.Test.YtceghmceoliplaaWApart
import Derived.Test.YtceghmceoliplaaWArr
import Derived.Test.YtceghmceoliplaaWZeros
import Derived.Test.YtceghmceoliplaaWFoot
import Derived.Test.YtceghmceoliplaaWKept
import Derived.Test.YtceghmceoliplaaWShare
import Derived.Test.YtceghmceoliplaaWN
import Derived.Test.YtceghmceoliplaaWFootNe
import Derived.Test.YtceghmceoliplaaWAt
import Derived.Test.YtceghmceoliplaaWEqStruct
import Derived.Test.YtceghmceoliplaaWRepsOne
import Derived.Test.YtceghmceoliplaaWInv
import Derived.Test.YtceghmceoliplaaWInvWords
import Derived.Test.YtceghmceoliplaaWGuard
import Derived.Test.YtceghmceoliplaaWNEv
import Derived.Test.YtceghmceoliplaaWMore
import Derived.Test.YtceghmceoliplaaArV
namespace Go.Proofs.Ytceghmceoliplaa.Ar
open Go.RowKit Go.Proofs.YtceghmceoliplaaW.PrintWords Go.Proofs.YtceghmceoliplaaW.PrintLast Go.Proofs.YtceghmceoliplaaW.PrintMore
attribute [local go_sem] max2_int min2_int max_two min_two max_three min_three max_four min_four
set_option linter.unusedVariables false
set_option linter.unusedSimpArgs false
def OpsAt (w : World) (A : Option Addr) (ops : List (Int × Int × Int)) : Prop :=
  ∀ i, i < ops.length → ∃ ad, A = some ad ∧ w.cell? (ad.add (i * 3)) = some (.int .i64 (ops.getD i default).1) ∧ w.cell? (ad.add (i * 3 + 1)) = some (.int .i64 (ops.getD i default).2.1) ∧ w.cell? (ad.add (i * 3 + 2)) = some (.int .i64 (ops.getD i default).2.2)
theorem words_in (a : Int) : -1 ≤ wrap64 ((wrap64 (a.tmod 200 + 200)).tmod 200 - 1) ∧ wrap64 ((wrap64 (a.tmod 200 + 200)).tmod 200 - 1) ≤ 198 := by
  have h1 := Int.tmod_lt_of_pos a (show (0 : Int) < 200 by omega)
  have h2 : -200 < a.tmod 200 := by
    have h3 := Int.neg_tmod a 200
    have h4 := Int.tmod_lt_of_pos (-a) (show (0 : Int) < 200 by omega)
    omega
  have e1 : wrap64 (a.tmod 200 + 200) = a.tmod 200 + 200 := by unfold wrap64; omega
  rw [e1]
  have h5 := Int.tmod_lt_of_pos (a.tmod 200 + 200) (show (0 : Int) < 200 by omega)
  have h6 := Int.tmod_nonneg 200 (show 0 ≤ a.tmod 200 + 200 by omega)
  unfold wrap64
  omega
set_option maxHeartbeats 8000000 in
set_option maxRecDepth 100000 in
theorem ArenaRuns_walk (w : World) (a0 : Int) (w0 : (Lit.int .i64 a0).wf = true) (A : Option Addr) (c : Nat) (ops : List (Int × Int × Int)) (hops : OpsAt w A ops) (hc : ops.length ≤ c) :
    Calls Try.prog 6 #[.int .i64 a0, .slice A ops.length c] w fun e w' => e = .returned (.bool true) ∧ Below w.heap.size w w' := by
  have HO := Aside0.mk hops
  have HC := Aside0.mk hc
  clear hops hc
  go_enter Try.func6, Try.ntmps6
  have HX := Aside0.mk (words_in a0)
  go_wp2_with (first
    | (go_at_call 24; refine (ar_alive _).mono ?_; rintro e w1 ⟨rfl, hb1⟩; have HB1 := Aside0.mk hb1; clear hb1)
    | (go_at_call 25; generalize wrap64 ((wrap64 (Int.tmod a0 200 + 200)).tmod 200 - 1) = x at HX ⊢; obtain ⟨N, n, hn, HN⟩ : ∃ (N : Nat) (n : Int), (if x < 0 then 0 else x) = n ∧ Aside0 (n = N ∧ N ≤ 198 ∧ (x < 0 ∧ N = 0 ∨ x = N ∧ N ≤ 1048576)) := (by have h := HX.out; by_cases h0 : x < 0; exact ⟨0, 0, if_pos h0, ⟨rfl, by omega, .inl ⟨h0, rfl⟩⟩⟩; exact ⟨x.toNat, x, if_neg h0, ⟨by omega, by omega, .inr ⟨by omega, by omega⟩⟩⟩); refine (ar_new _ x N HN.out.2.2).mono ?_; rintro e w2 ⟨rfl, h1, hb2⟩; obtain ⟨p, hp⟩ : ∃ p, p = w1.heap.size + 1 := ⟨_, rfl⟩; obtain ⟨g, hg⟩ : ∃ g, g = w1.heap.size := ⟨_, rfl⟩; rw [← hp] at h1 ⊢; rw [← hg] at h1; have HA := Aside0.mk h1; have HB2 := Aside0.mk (HB1.out.trans (hb2.mono HB1.out.size)); have HP : Aside0 (w.heap.size ≤ p ∧ w.heap.size ≤ g) := ⟨by rw [hp, hg]; have := HB1.out.size; omega⟩; clear h1 hb2 hp hg))
  go_loopg [6, 7, 8] 31 (fun gk v6 v7 v8 wc => ∃ (used high i : Int) (ws : List Int), v6 = .int .i64 used ∧ v7 = .int .i64 high ∧ v8 = .int .i64 i ∧ Aside0 (0 ≤ i ∧ i + gk = 31 ∧ 1 ≤ gk) ∧ Aside0 (0 ≤ used ∧ used ≤ N ∧ used ≤ high ∧ high ≤ N ∧ ws.length = N) ∧ Aside0 (ArAt wc p g ws used high) ∧ Aside0 (Below w.heap.size w wc))
  case atStart => exact ⟨0, 0, 0, List.replicate N 0, rfl, rfl, rfl, ⟨by omega, by omega, by omega⟩, ⟨by omega, by omega, by omega, by omega, by simp⟩, HA, HB2⟩
  case round =>
    clear HA HB2 HB1
    obtain ⟨used, high, i, ws, rfl, rfl, rfl, HI, HU, HA, HB⟩ := hrel
    by_cases hlt : i < (ops.length : Int)
    · have c0 : decide (i < (ops.length : Int)) = true := decide_eq_true hlt
      by_cases h30 : i < 30
      · have c1 : decide (i < 30) = true := decide_eq_true h30
        obtain ⟨ad, eA, x0, x1, x2⟩ := HO.out i.toNat (by have := HI.out; omega)
        subst eA
        obtain ⟨⟨kd, oa, ob⟩, eq⟩ : ∃ q, ops.getD i.toNat default = q := ⟨_, rfl⟩
        rw [eq] at x0 x1 x2
        clear eq
        replace x0 := pw_cell_below HB.out x0
        replace x1 := pw_cell_below HB.out x1
        replace x2 := pw_cell_below HB.out x2
        rw [add_field _ _ _ (by omega)] at x1 x2
        have p1 : 0 ≤ i := HI.out.1
        have p1b : (0 ≤ i) = True := eq_true p1
        have p2b : (i < (ops.length : Int)) = True := eq_true hlt
        have HLT := Aside0.mk hlt
        have H30 := Aside0.mk h30
        clear p1 hlt h30
        simp only at x0 x1 x2
        generalize gk = ogk at *
        have HT1 := Aside0.mk (HA.out.below (below_alloc (Below.refl _ wr) (.cells #[.int .i64 kd, .int .i64 oa, .int .i64 ob] 46)))
        have HBT1 := Aside0.mk (below_then HB.out HB.out.size (below_alloc (Below.refl _ wr) (.cells #[.int .i64 kd, .int .i64 oa, .int .i64 ob] 46)))
        have BK1 := Aside0.mk (blk_new wr (.cells #[.int .i64 kd, .int .i64 oa, .int .i64 ob] 46))
        have NE1 : Aside0 (wr.heap.size ≠ p ∧ wr.heap.size ≠ g) := ⟨by have := blk_lt HA.out.1; omega, by have := blk_lt HA.out.2; omega⟩
        have HL : Aside0 (ws.length = N) := ⟨HU.out.2.2.2.2⟩
        have HL1 : Aside0 (ws.length ≤ 1048576) := ⟨by have := HU.out; have := HN.out; omega⟩
        have HLn : Aside0 (((ws.length : Nat) : Int) = n) := ⟨by have := HU.out; have := HN.out; omega⟩
        have hNn : ((N : Nat) : Int) = n := by have := HN.out; omega
        have hhi : (if high < used then used else high) = high := if_neg (by have := HU.out; omega)
        have hlt0 : (high < used) = False := eq_false (by have := HU.out; omega)
        clear HA
        by_cases hk0 : (wrap64 (kd.tmod 3 + 3)).tmod 3 = 0
        · have k0 : ((wrap64 (kd.tmod 3 + 3)).tmod 3 == 0) = true := beq_iff_eq.mpr hk0
          clear hk0
          by_cases hs : oa < 0 ∨ oa > 64 ∨ ob < 0 ∨ ob > 64
          · have HM := Aside0.mk hs
            have HU2 := HU
            have hh : (decide (oa < 0) = true) ∨ (decide (oa < 0) = false ∧ decide (oa > 64) = true) ∨ (decide (oa < 0) = false ∧ decide (oa > 64) = false ∧ decide (ob < 0) = true) ∨ (decide (oa < 0) = false ∧ decide (oa > 64) = false ∧ decide (ob < 0) = false ∧ decide (ob > 64) = true) := by
              simp only [decide_eq_true_eq, decide_eq_false_iff_not]; omega
            clear hs
            rcases hh with b0 | ⟨b0, b1⟩ | ⟨b0, b1, b2⟩ | ⟨b0, b1, b2, b3⟩
            all_goals
              as_aux_lemma =>
              go_wp2_with (first
                    | (go_at_call 26; refine (ar_take_shape HT1.out HM.out).mono ?_; rintro e w2 ⟨rfl, hb2⟩; have HT := Aside0.mk (HT1.out.below hb2); have HBT := Aside0.mk (below_then HBT1.out HBT1.out.size hb2); have BK2 := Aside0.mk (blk_below BK1.out hb2); clear hb2; have s0 : ∀ o, (w2.alloc o).cell? ⟨wr.heap.size, 0, none⟩ = some (.int .i64 kd) := fun o => (blk_cell (blk_below BK2.out (below_alloc (Below.refl _ _) o)) 0).trans rfl; have s1 : ∀ o, (w2.alloc o).cell? ⟨wr.heap.size, 1, none⟩ = some (.int .i64 oa) := fun o => (blk_cell (blk_below BK2.out (below_alloc (Below.refl _ _) o)) 1).trans rfl; have s2 : ∀ o, (w2.alloc o).cell? ⟨wr.heap.size, 2, none⟩ = some (.int .i64 ob) := fun o => (blk_cell (blk_below BK2.out (below_alloc (Below.refl _ _) o)) 2).trans rfl)
                    | (go_at_call 30; refine (ar_mark (p := p) (g := g) (ws := ws) (used := used) (high := high) ?ha).mono ?_; (case ha => (first | exact HT.out | (refine HT.out.below ?_; repeat (first | exact Below.refl _ _ | refine below_alloc ?_ _ | refine pw_below_drewN ?_ _)))); rintro e w33 ⟨rfl, rfl⟩)
                    | (go_at_call 31; refine (ar_high (p := p) (g := g) (ws := ws) (used := used) (high := high) ?ha).mono ?_; (case ha => (first | exact HT.out | (refine HT.out.below ?_; repeat (first | exact Below.refl _ _ | refine below_alloc ?_ _ | refine pw_below_drewN ?_ _)))); rintro e w33 ⟨rfl, rfl⟩)
                    | (go_at_call 32; refine (ar_left_is (p := p) (g := g) (ws := ws) (used := used) (high := high) (v := wrap64 (n - used)) ?ha (by rw [HLn.out])).mono ?_; (case ha => (first | exact HT.out | (refine HT.out.below ?_; repeat (first | exact Below.refl _ _ | refine below_alloc ?_ _ | refine pw_below_drewN ?_ _)))); rintro e w33 ⟨rfl, ⟨q, rfl⟩⟩)
                    | (go_at_call 29; refine (ar_words (p := p) (g := g) (ws := ws) (used := used) (high := high) ?ha HL1.out).mono ?_; (case ha => (first | exact HT.out | (refine HT.out.below ?_; repeat (first | exact Below.refl _ _ | refine below_alloc ?_ _ | refine pw_below_drewN ?_ _)))); rintro e w33 ⟨v3, rfl, hR3, hB3⟩; obtain ⟨A3, c3, rfl, hlc3, hC3⟩ := Kd.R_reads hR3; rw [HL.out]; have HR3 := Aside0.mk hR3; have HB3 := Aside0.mk hB3; clear hR3 hB3 hlc3 hC3))
              go_roundg (ogk - 1)
              case measure => have := HI.out; omega
              case rel =>
                refine ⟨used, high, wrap64 (i + 1), ws, rfl, rfl, rfl, ⟨by have := HI.out; have := H30.out; unfold wrap64; omega⟩, HU2, ⟨?_⟩, ⟨?_⟩⟩
                · refine ArAt.below (w := _) ?_ HB3.out
                  (first | exact HT.out | (refine HT.out.below ?_; repeat (first | exact Below.refl _ _ | refine below_alloc ?_ _ | refine pw_below_drewN ?_ _)))
                · refine below_three HBT.out HBT.out.size ?_ HB3.out
                  repeat (first | exact Below.refl _ _ | refine below_alloc ?_ _ | refine pw_below_drewN ?_ _)
          · have b0 : decide (oa < 0) = false := decide_eq_false (by omega)
            have b1 : decide (oa > 64) = false := decide_eq_false (by omega)
            have b2 : decide (ob < 0) = false := decide_eq_false (by omega)
            have b3 : decide (ob > 64) = false := decide_eq_false (by omega)
            have HM : Aside0 ((0 ≤ oa ∧ oa ≤ 64) ∧ (0 ≤ ob ∧ ob ≤ 64)) := ⟨by omega⟩
            clear hs
            obtain ⟨X, hX⟩ : ∃ X : Nat, oa * ob = (X : Int) := Int.eq_ofNat_of_zero_le (Int.mul_nonneg HM.out.1.1 HM.out.2.1)
            have HX1 := Aside0.mk hX
            have HX2 : Aside0 (X ≤ 4096) := ⟨by
              have := Int.mul_le_mul HM.out.1.2 HM.out.2.2 HM.out.2.1 (by omega : (0 : Int) ≤ 64)
              omega⟩
            have m1 : wrap64 (oa * ob) = (X : Int) := by rw [hX]; have := HX2.out; unfold wrap64; omega
            have m2 : wrap64 (n - used) = n - used := by have := HU.out; have := HN.out; unfold wrap64; omega
            clear hX
            by_cases hf : (X : Int) > n - used
            · have b4 : decide ((X : Int) > n - used) = true := decide_eq_true hf
              have HF := Aside0.mk hf
              have HU2 := HU
              clear hf
              as_aux_lemma =>
              go_wp2_with (first
                    | (go_at_call 26; refine (ar_take_full HT1.out HM.out.1 HM.out.2 (by rw [HX1.out, HLn.out, m2]; exact HF.out)).mono ?_; rintro e w2 ⟨rfl, hb2⟩; have HT := Aside0.mk (HT1.out.below hb2); have HBT := Aside0.mk (below_then HBT1.out HBT1.out.size hb2); have BK2 := Aside0.mk (blk_below BK1.out hb2); clear hb2; have s0 : ∀ o, (w2.alloc o).cell? ⟨wr.heap.size, 0, none⟩ = some (.int .i64 kd) := fun o => (blk_cell (blk_below BK2.out (below_alloc (Below.refl _ _) o)) 0).trans rfl; have s1 : ∀ o, (w2.alloc o).cell? ⟨wr.heap.size, 1, none⟩ = some (.int .i64 oa) := fun o => (blk_cell (blk_below BK2.out (below_alloc (Below.refl _ _) o)) 1).trans rfl; have s2 : ∀ o, (w2.alloc o).cell? ⟨wr.heap.size, 2, none⟩ = some (.int .i64 ob) := fun o => (blk_cell (blk_below BK2.out (below_alloc (Below.refl _ _) o)) 2).trans rfl)
                    | (go_at_call 30; refine (ar_mark (p := p) (g := g) (ws := ws) (used := used) (high := high) ?ha).mono ?_; (case ha => (first | exact HT.out | (refine HT.out.below ?_; repeat (first | exact Below.refl _ _ | refine below_alloc ?_ _ | refine pw_below_drewN ?_ _)))); rintro e w33 ⟨rfl, rfl⟩)
                    | (go_at_call 31; refine (ar_high (p := p) (g := g) (ws := ws) (used := used) (high := high) ?ha).mono ?_; (case ha => (first | exact HT.out | (refine HT.out.below ?_; repeat (first | exact Below.refl _ _ | refine below_alloc ?_ _ | refine pw_below_drewN ?_ _)))); rintro e w33 ⟨rfl, rfl⟩)
                    | (go_at_call 32; refine (ar_left_is (p := p) (g := g) (ws := ws) (used := used) (high := high) (v := wrap64 (n - used)) ?ha (by rw [HLn.out])).mono ?_; (case ha => (first | exact HT.out | (refine HT.out.below ?_; repeat (first | exact Below.refl _ _ | refine below_alloc ?_ _ | refine pw_below_drewN ?_ _)))); rintro e w33 ⟨rfl, ⟨q, rfl⟩⟩)
                    | (go_at_call 29; refine (ar_words (p := p) (g := g) (ws := ws) (used := used) (high := high) ?ha HL1.out).mono ?_; (case ha => (first | exact HT.out | (refine HT.out.below ?_; repeat (first | exact Below.refl _ _ | refine below_alloc ?_ _ | refine pw_below_drewN ?_ _)))); rintro e w33 ⟨v3, rfl, hR3, hB3⟩; obtain ⟨A3, c3, rfl, hlc3, hC3⟩ := Kd.R_reads hR3; rw [HL.out]; have HR3 := Aside0.mk hR3; have HB3 := Aside0.mk hB3; clear hR3 hB3 hlc3 hC3))
              go_roundg (ogk - 1)
              case measure => have := HI.out; omega
              case rel =>
                refine ⟨used, high, wrap64 (i + 1), ws, rfl, rfl, rfl, ⟨by have := HI.out; have := H30.out; unfold wrap64; omega⟩, HU2, ⟨?_⟩, ⟨?_⟩⟩
                · refine ArAt.below (w := _) ?_ HB3.out
                  (first | exact HT.out | (refine HT.out.below ?_; repeat (first | exact Below.refl _ _ | refine below_alloc ?_ _ | refine pw_below_drewN ?_ _)))
                · refine below_three HBT.out HBT.out.size ?_ HB3.out
                  repeat (first | exact Below.refl _ _ | refine below_alloc ?_ _ | refine pw_below_drewN ?_ _)
            · have b4 : decide ((X : Int) > n - used) = false := decide_eq_false hf
              obtain ⟨y, hy⟩ : ∃ y, used + (X : Int) = y := ⟨_, rfl⟩
              obtain ⟨z, hz⟩ : ∃ z, mx high y = z := ⟨_, rfl⟩
              have m3 : wrap64 (used + (X : Int)) = y := by have := HU.out; have := HN.out; have := HX2.out; unfold wrap64; omega
              have HY := Aside0.mk hy
              have HZ := Aside0.mk hz
              have hhi3 : (if high < y then y else high) = z := hz
              have HU2 : Aside0 (0 ≤ y ∧ y ≤ N ∧ y ≤ z ∧ z ≤ N ∧ ws.length = N) := ⟨by have := HU.out; have := HN.out; rw [← hz]; unfold mx; split <;> omega⟩
              clear hf hy hz hhi hlt0
              as_aux_lemma =>
              go_wp2_with (first
                    | (go_at_call 26; refine (ar_takeX (X := X) (y := y) (z := z) HT1.out HM.out.1 HM.out.2 HU.out.1 HX1.out HY.out HZ.out (by have := HU2.out; omega) HL1.out).mono ?_; rintro e w2 ⟨rfl, h2, f2⟩; have HT2 := Aside0.mk h2; have HBT2 := Aside0.mk (HBT1.out.trans (f2.outer HP.out.1 HP.out.2 HBT1.out.size)); have BK2 := Aside0.mk ((f2.block _ (blk_lt BK1.out) NE1.out.1 NE1.out.2).trans BK1.out); have NE2 : Aside0 (p < w2.heap.size ∧ g < w2.heap.size ∧ wr.heap.size < w2.heap.size) := ⟨blk_lt h2.1, blk_lt h2.2, blk_lt BK2.out⟩; have s0 : ∀ o, (w2.alloc o).cell? ⟨wr.heap.size, 0, none⟩ = some (.int .i64 kd) := fun o => (blk_cell (blk_below BK2.out (below_alloc (Below.refl _ _) o)) 0).trans rfl; have s1 : ∀ o, (w2.alloc o).cell? ⟨wr.heap.size, 1, none⟩ = some (.int .i64 oa) := fun o => (blk_cell (blk_below BK2.out (below_alloc (Below.refl _ _) o)) 1).trans rfl; have s2 : ∀ o, (w2.alloc o).cell? ⟨wr.heap.size, 2, none⟩ = some (.int .i64 ob) := fun o => (blk_cell (blk_below BK2.out (below_alloc (Below.refl _ _) o)) 2).trans rfl; clear h2 f2)
                    | (go_at_call 27; refine (ar_lendX (X := X) (HT2.out.below (below_alloc (Below.refl _ w2) (.cells #[.int .i64 oa, .int .i64 ob, .int .i64 ob, .int .i64 used] 48))) HM.out.1 HM.out.2 ⟨HU.out.1, by have := HY.out; omega⟩ HX1.out (by have := HY.out; omega) (by rw [wiped_len _ _ _ (by have := HY.out; have := HU2.out; have := HU.out; omega)]; have := HU2.out; omega) (by rw [wiped_len _ _ _ (by have := HY.out; have := HU2.out; have := HU.out; omega)]; exact HL1.out)).mono ?_; rintro e w4 ⟨⟨F, rfl, hF⟩, hb4⟩; have HF := Aside0.mk hF; have HT4 := Aside0.mk ((HT2.out.below (below_alloc (Below.refl _ w2) (.cells #[.int .i64 oa, .int .i64 ob, .int .i64 ob, .int .i64 used] 48))).below hb4); have HBT4 := Aside0.mk (below_then (below_then HBT2.out HBT2.out.size (below_alloc (Below.refl _ w2) (.cells #[.int .i64 oa, .int .i64 ob, .int .i64 ob, .int .i64 used] 48))) (Nat.le_trans HBT2.out.size (below_alloc (Below.refl _ w2) (.cells #[.int .i64 oa, .int .i64 ob, .int .i64 ob, .int .i64 used] 48)).size) hb4); have BK4 := Aside0.mk (blk_below (blk_below BK2.out (below_alloc (Below.refl _ w2) (.cells #[.int .i64 oa, .int .i64 ob, .int .i64 ob, .int .i64 used] 48))) hb4); have BV4 := Aside0.mk (blk_below (blk_new w2 (.cells #[.int .i64 oa, .int .i64 ob, .int .i64 ob, .int .i64 used] 48)) hb4); have t0 : w4.cell? ⟨wr.heap.size, 0, none⟩ = some (.int .i64 kd) := (blk_cell BK4.out 0).trans rfl; have t1 : w4.cell? ⟨wr.heap.size, 1, none⟩ = some (.int .i64 oa) := (blk_cell BK4.out 1).trans rfl; have t2 : w4.cell? ⟨wr.heap.size, 2, none⟩ = some (.int .i64 ob) := (blk_cell BK4.out 2).trans rfl; have v0 : w4.cell? ⟨w2.heap.size, 0, none⟩ = some (.int .i64 oa) := (blk_cell BV4.out 0).trans rfl; have v1 : w4.cell? ⟨w2.heap.size, 1, none⟩ = some (.int .i64 ob) := (blk_cell BV4.out 1).trans rfl; have v2 : w4.cell? ⟨w2.heap.size, 2, none⟩ = some (.int .i64 ob) := (blk_cell BV4.out 2).trans rfl; have v3 : w4.cell? ⟨w2.heap.size, 3, none⟩ = some (.int .i64 used) := (blk_cell BV4.out 3).trans rfl; clear hF hb4))
              go_loopg [13] X (fun hk v13 wc => ∃ (j : Int) (xs : List Int), v13 = .int .i64 j ∧ Aside0 (0 ≤ j ∧ j + hk = X) ∧ Aside0 (xs.length = N ∧ ∀ q : Nat, j.toNat ≤ q → q < X → xs.getD (used.toNat + q) 0 = 0) ∧ Aside0 (ArAt wc p g xs y z) ∧ Aside0 (Below w.heap.size w wc) ∧ Aside0 (wc.heap[wr.heap.size]? = some (.cells #[.int .i64 kd, .int .i64 oa, .int .i64 ob] 46)))
              case atStart =>
                have hfit : used.toNat + X ≤ ws.length := by have := HY.out; have := HU2.out; have := HU.out; omega
                exact ⟨0, wiped ws used.toNat X, rfl, ⟨by omega, by omega⟩, ⟨by rw [wiped_len _ _ _ hfit]; exact HL.out, fun q _ hq => wiped_get ws used.toNat X q hfit hq⟩, HT4, HBT4, BK4⟩
              case round =>
                clear HT4 HBT4 BK4 BV4 HT2 HBT2 BK2 s0 s1 s2 t0 t1 t2 v0 v1 v2 v3 HT1 HBT1 BK1
                obtain ⟨j, xs, rfl, HJ, HXS, HT, HBT, BK⟩ := hrel
                by_cases hj : j < (X : Int)
                · have d0 : decide (j < (X : Int)) = true := decide_eq_true hj
                  have hF := HF.out (by have := HJ.out; omega)
                  subst hF
                  have hfit : used.toNat + j.toNat < xs.length := by have := HY.out; have := HU2.out; have := HU.out; have := HJ.out; have := HXS.out.1; omega
                  have q1 : wr.cell? ⟨g, used.toNat + j.toNat, none⟩ = some (.int .u64 0) := by
                    rw [U64_get HT.out.2 hfit, HXS.out.2 j.toNat (Nat.le_refl _) (by have := HJ.out; omega)]
                  have q2 := blk_frozen HT.out.2 (used.toNat + j.toNat)
                  have p3 : (0 ≤ j) = True := eq_true HJ.out.1
                  have p4 : (j < (X : Int)) = True := eq_true hj
                  have HJ2 := Aside0.mk hj
                  clear hj hfit m1 m2 m3 hhi3 b4 b0 b1 b2 b3 k0 hNn
                  as_aux_lemma =>
                  go_wp2
                  go_roundg (gk - 1)
                  case measure => have := HJ.out; have := HJ2.out; omega
                  case rel =>
                    refine ⟨wrap64 (j + 1), xs.set (used.toNat + j.toNat) _, rfl, ⟨by have := HJ.out; have := HJ2.out; have := HX2.out; unfold wrap64; omega⟩, ⟨by rw [List.length_set]; exact HXS.out.1, fun q h1 h2 => ?_⟩, ⟨HT.out.store _ _⟩, ⟨HBT.out.setCell (p := ⟨g, _, none⟩) HP.out.2 _⟩, ⟨blk_far BK.out (p := ⟨g, _, none⟩) (fun e => NE1.out.2 e) _⟩⟩
                    have h3 : (wrap64 (j + 1)).toNat = j.toNat + 1 := by have := HJ.out; have := HJ2.out; have := HX2.out; unfold wrap64; omega
                    rw [h3] at h1
                    rw [List.getD_eq_getElem?_getD, List.getElem?_set_ne (by omega), ← List.getD_eq_getElem?_getD]
                    exact HXS.out.2 q (by omega) h2
                · have d0 : decide (j < (X : Int)) = false := decide_eq_false hj
                  have t0 : wr.cell? ⟨_, 0, none⟩ = some (.int .i64 kd) := (blk_cell BK.out 0).trans rfl
                  have t1 : wr.cell? ⟨_, 1, none⟩ = some (.int .i64 oa) := (blk_cell BK.out 1).trans rfl
                  have t2 : wr.cell? ⟨_, 2, none⟩ = some (.int .i64 ob) := (blk_cell BK.out 2).trans rfl
                  have HU3 : Aside0 (0 ≤ y ∧ y ≤ N ∧ y ≤ z ∧ z ≤ N ∧ xs.length = N) := ⟨by have := HU2.out; have := HXS.out.1; omega⟩
                  have HL1 : Aside0 (xs.length ≤ 1048576) := ⟨by have := HXS.out.1; have := HN.out; omega⟩
                  have HLn : Aside0 (((xs.length : Nat) : Int) = n) := ⟨by have := HXS.out.1; have := HN.out; omega⟩
                  have HL : Aside0 (xs.length = N) := ⟨HXS.out.1⟩
                  clear HU2
                  have HU2 := HU3
                  clear HU3 hj
                  as_aux_lemma =>
                  go_wp2_with (first 
                    | (go_at_call 30; refine (ar_mark (p := p) (g := g) (ws := xs) (used := y) (high := z) ?ha).mono ?_; (case ha => (first | exact HT.out | (refine HT.out.below ?_; repeat (first | exact Below.refl _ _ | refine below_alloc ?_ _ | refine pw_below_drewN ?_ _)))); rintro e w33 ⟨rfl, rfl⟩)
                    | (go_at_call 31; refine (ar_high (p := p) (g := g) (ws := xs) (used := y) (high := z) ?ha).mono ?_; (case ha => (first | exact HT.out | (refine HT.out.below ?_; repeat (first | exact Below.refl _ _ | refine below_alloc ?_ _ | refine pw_below_drewN ?_ _)))); rintro e w33 ⟨rfl, rfl⟩)
                    | (go_at_call 32; refine (ar_left_is (p := p) (g := g) (ws := xs) (used := y) (high := z) (v := wrap64 (n - y)) ?ha (by rw [HLn.out])).mono ?_; (case ha => (first | exact HT.out | (refine HT.out.below ?_; repeat (first | exact Below.refl _ _ | refine below_alloc ?_ _ | refine pw_below_drewN ?_ _)))); rintro e w33 ⟨rfl, ⟨q, rfl⟩⟩)
                    | (go_at_call 29; refine (ar_words (p := p) (g := g) (ws := xs) (used := y) (high := z) ?ha HL1.out).mono ?_; (case ha => (first | exact HT.out | (refine HT.out.below ?_; repeat (first | exact Below.refl _ _ | refine below_alloc ?_ _ | refine pw_below_drewN ?_ _)))); rintro e w33 ⟨v3, rfl, hR3, hB3⟩; obtain ⟨A3, c3, rfl, hlc3, hC3⟩ := Kd.R_reads hR3; rw [HL.out]; have HR3 := Aside0.mk hR3; have HB3 := Aside0.mk hB3; clear hR3 hB3 hlc3 hC3))
                  go_roundg (ogk - 1)
                  case measure => have := HI.out; omega
                  case rel =>
                    refine ⟨y, z, wrap64 (i + 1), xs, rfl, rfl, rfl, ⟨by have := HI.out; have := H30.out; unfold wrap64; omega⟩, HU2, ⟨?_⟩, ⟨?_⟩⟩
                    · refine ArAt.below (w := _) ?_ HB3.out
                      (first | exact HT.out | (refine HT.out.below ?_; repeat (first | exact Below.refl _ _ | refine below_alloc ?_ _ | refine pw_below_drewN ?_ _)))
                    · refine below_three HBT.out HBT.out.size ?_ HB3.out
                      repeat (first | exact Below.refl _ _ | refine below_alloc ?_ _ | refine pw_below_drewN ?_ _)
        · have k0 : ((wrap64 (kd.tmod 3 + 3)).tmod 3 == 0) = false := beq_eq_false_iff_ne.mpr hk0
          clear hk0
          by_cases hk1 : (wrap64 (kd.tmod 3 + 3)).tmod 3 = 1
          · have k1 : ((wrap64 (kd.tmod 3 + 3)).tmod 3 == 1) = true := beq_iff_eq.mpr hk1
            clear hk1
            by_cases hm : oa < 0 ∨ oa > used
            · have HT := HT1
              have HBT := HBT1
              have HU2 := HU
              have HM := Aside0.mk hm
              have hh : (decide (oa < 0) = true) ∨ (decide (oa < 0) = false ∧ decide (oa > used) = true) := by
                simp only [decide_eq_true_eq, decide_eq_false_iff_not]; omega
              clear hm
              rcases hh with b0 | ⟨b0, b1⟩
              all_goals
                as_aux_lemma =>
                go_wp2_with (first
                      | (go_at_call 28; refine (ar_release_out HT1.out HM.out).mono ?_; rintro e w2 ⟨rfl, rfl⟩)
                      | (go_at_call 30; refine (ar_mark (p := p) (g := g) (ws := ws) (used := used) (high := high) ?ha).mono ?_; (case ha => (first | exact HT.out | (refine HT.out.below ?_; repeat (first | exact Below.refl _ _ | refine below_alloc ?_ _ | refine pw_below_drewN ?_ _)))); rintro e w33 ⟨rfl, rfl⟩)
                      | (go_at_call 31; refine (ar_high (p := p) (g := g) (ws := ws) (used := used) (high := high) ?ha).mono ?_; (case ha => (first | exact HT.out | (refine HT.out.below ?_; repeat (first | exact Below.refl _ _ | refine below_alloc ?_ _ | refine pw_below_drewN ?_ _)))); rintro e w33 ⟨rfl, rfl⟩)
                      | (go_at_call 32; refine (ar_left_is (p := p) (g := g) (ws := ws) (used := used) (high := high) (v := wrap64 (n - used)) ?ha (by rw [HLn.out])).mono ?_; (case ha => (first | exact HT.out | (refine HT.out.below ?_; repeat (first | exact Below.refl _ _ | refine below_alloc ?_ _ | refine pw_below_drewN ?_ _)))); rintro e w33 ⟨rfl, ⟨q, rfl⟩⟩)
                      | (go_at_call 29; refine (ar_words (p := p) (g := g) (ws := ws) (used := used) (high := high) ?ha HL1.out).mono ?_; (case ha => (first | exact HT.out | (refine HT.out.below ?_; repeat (first | exact Below.refl _ _ | refine below_alloc ?_ _ | refine pw_below_drewN ?_ _)))); rintro e w33 ⟨v3, rfl, hR3, hB3⟩; obtain ⟨A3, c3, rfl, hlc3, hC3⟩ := Kd.R_reads hR3; rw [HL.out]; have HR3 := Aside0.mk hR3; have HB3 := Aside0.mk hB3; clear hR3 hB3 hlc3 hC3))
                go_roundg (ogk - 1)
                case measure => have := HI.out; omega
                case rel =>
                  refine ⟨used, high, wrap64 (i + 1), ws, rfl, rfl, rfl, ⟨by have := HI.out; have := H30.out; unfold wrap64; omega⟩, HU2, ⟨?_⟩, ⟨?_⟩⟩
                  · refine ArAt.below (w := _) ?_ HB3.out
                    (first | exact HT.out | (refine HT.out.below ?_; repeat (first | exact Below.refl _ _ | refine below_alloc ?_ _ | refine pw_below_drewN ?_ _)))
                  · refine below_three HBT.out HBT.out.size ?_ HB3.out
                    repeat (first | exact Below.refl _ _ | refine below_alloc ?_ _ | refine pw_below_drewN ?_ _)
            · have b0 : decide (oa < 0) = false := decide_eq_false (by omega)
              have b1 : decide (oa > used) = false := decide_eq_false (by omega)
              have HM : Aside0 (0 ≤ oa ∧ oa ≤ used) := ⟨by omega⟩
              have HU2 : Aside0 (0 ≤ oa ∧ oa ≤ N ∧ oa ≤ high ∧ high ≤ N ∧ ws.length = N) := ⟨by have := HU.out; omega⟩
              have hhi2 : (if high < oa then oa else high) = high := if_neg (by have := HU.out; omega)
              have hlt2 : (high < oa) = False := eq_false (by have := HU.out; omega)
              clear hm hlt0 hhi
              as_aux_lemma =>
              go_wp2_with (first
                      | (go_at_call 28; refine (ar_release HT1.out HM.out.1 HM.out.2).mono ?_; rintro e w2 ⟨rfl, hw2⟩; have HT := Aside0.mk (HT1.out.used oa); rw [← hw2] at HT; have HBT := Aside0.mk (HBT1.out.setCell (p := ⟨p, 1, none⟩) HP.out.1 (.int .i64 oa)); rw [← hw2] at HBT; have BK2 := blk_far BK1.out (p := ⟨p, 1, none⟩) (fun e => NE1.out.1 e) (.int .i64 oa); rw [← hw2] at BK2; have r0 : w2.cell? ⟨wr.heap.size, 0, none⟩ = some (.int .i64 kd) := (blk_cell BK2 0).trans rfl; have r1 : w2.cell? ⟨wr.heap.size, 1, none⟩ = some (.int .i64 oa) := (blk_cell BK2 1).trans rfl; have r2 : w2.cell? ⟨wr.heap.size, 2, none⟩ = some (.int .i64 ob) := (blk_cell BK2 2).trans rfl; clear BK2 hw2)
                      | (go_at_call 30; refine (ar_mark (p := p) (g := g) (ws := ws) (used := oa) (high := high) ?ha).mono ?_; (case ha => (first | exact HT.out | (refine HT.out.below ?_; repeat (first | exact Below.refl _ _ | refine below_alloc ?_ _ | refine pw_below_drewN ?_ _)))); rintro e w33 ⟨rfl, rfl⟩)
                      | (go_at_call 31; refine (ar_high (p := p) (g := g) (ws := ws) (used := oa) (high := high) ?ha).mono ?_; (case ha => (first | exact HT.out | (refine HT.out.below ?_; repeat (first | exact Below.refl _ _ | refine below_alloc ?_ _ | refine pw_below_drewN ?_ _)))); rintro e w33 ⟨rfl, rfl⟩)
                      | (go_at_call 32; refine (ar_left_is (p := p) (g := g) (ws := ws) (used := oa) (high := high) (v := wrap64 (n - oa)) ?ha (by rw [HLn.out])).mono ?_; (case ha => (first | exact HT.out | (refine HT.out.below ?_; repeat (first | exact Below.refl _ _ | refine below_alloc ?_ _ | refine pw_below_drewN ?_ _)))); rintro e w33 ⟨rfl, ⟨q, rfl⟩⟩)
                      | (go_at_call 29; refine (ar_words (p := p) (g := g) (ws := ws) (used := oa) (high := high) ?ha HL1.out).mono ?_; (case ha => (first | exact HT.out | (refine HT.out.below ?_; repeat (first | exact Below.refl _ _ | refine below_alloc ?_ _ | refine pw_below_drewN ?_ _)))); rintro e w33 ⟨v3, rfl, hR3, hB3⟩; obtain ⟨A3, c3, rfl, hlc3, hC3⟩ := Kd.R_reads hR3; rw [HL.out]; have HR3 := Aside0.mk hR3; have HB3 := Aside0.mk hB3; clear hR3 hB3 hlc3 hC3))
              go_roundg (ogk - 1)
              case measure => have := HI.out; omega
              case rel =>
                refine ⟨oa, high, wrap64 (i + 1), ws, rfl, rfl, rfl, ⟨by have := HI.out; have := H30.out; unfold wrap64; omega⟩, HU2, ⟨?_⟩, ⟨?_⟩⟩
                · refine ArAt.below (w := _) ?_ HB3.out
                  (first | exact HT.out | (refine HT.out.below ?_; repeat (first | exact Below.refl _ _ | refine below_alloc ?_ _ | refine pw_below_drewN ?_ _)))
                · refine below_three HBT.out HBT.out.size ?_ HB3.out
                  repeat (first | exact Below.refl _ _ | refine below_alloc ?_ _ | refine pw_below_drewN ?_ _)
          · have k1 : ((wrap64 (kd.tmod 3 + 3)).tmod 3 == 1) = false := beq_eq_false_iff_ne.mpr hk1
            clear hk1
            have HU2 := HU
            go_wp2_with (first
              | (go_at_call 29; refine (ar_words HT1.out HL1.out).mono ?_; rintro e w2 ⟨v2, rfl, hR2, hB2⟩; obtain ⟨A2, c2, rfl, hlc2, hC2⟩ := Kd.R_reads hR2; have HR2 := Aside0.mk hR2; have HT2 := Aside0.mk (HT1.out.below hB2); have HBT2 := Aside0.mk (below_then HBT1.out HBT1.out.size hB2); clear hR2 hB2 hlc2 hC2))
            generalize hb2 : (wr.alloc (.cells #[.int .i64 kd, .int .i64 oa, .int .i64 ob] 46)).heap.size = b2 at HR2
            have HB2' : Aside0 (p < b2 ∧ g < b2 ∧ w.heap.size ≤ b2) := ⟨by rw [← hb2]; exact ⟨blk_lt HT1.out.1, blk_lt HT1.out.2, HBT1.out.size⟩⟩
            clear hb2
            rw [HL.out] at HR2 ⊢
            go_loopg [16] N (fun hk v16 wc => ∃ (j : Int) (xs : List Int), v16 = .int .i64 j ∧ Aside0 (0 ≤ j ∧ j + hk = N) ∧ Aside0 (Kd.R (Kd.int .u64) 40 wc b2 (fun _ => True) (.slice A2 N c2) xs) ∧ Aside0 (ArAt wc p g ws used high) ∧ Aside0 (Below w.heap.size w wc))
            case atStart => exact ⟨0, ws, rfl, ⟨by omega, by omega⟩, HR2, HT2, HBT2⟩
            case round =>
              clear HR2 HT2 HBT2 HT1 HBT1 BK1
              obtain ⟨j, xs, rfl, HJ, HR, HT, HBT⟩ := hrel
              by_cases hj : j < (N : Int)
              · have d0 : decide (j < (N : Int)) = true := decide_eq_true hj
                have d0' : decide (j < n) = true := by rw [← hNn]; exact d0
                have hxs : xs.length = N := by have := Kd.R_reads' HR.out; omega
                obtain ⟨g2, cq, eq, gb, gl, cl, HG0⟩ := Kd.R_form HR.out (by have := HJ.out; omega)
                injection eq with ea e_ ec
                subst ea
                clear e_ ec HG0 cl cq
                obtain ⟨q1, q2⟩ := Kd.R_celln 0 HR.out j HJ.out.1 hj
                obtain ⟨P1, G1⟩ := Kd.R_putg HR.out j 77
                have HP1 := Aside0.mk P1
                have HT' := Aside0.mk (HT.out.far (b := g2) (by have := HB2'.out; omega) (by have := HB2'.out; omega) j.toNat (.int .u64 77))
                have HBT' := Aside0.mk (HBT.out.setCell (p := ⟨g2, j.toNat, none⟩) (show w.heap.size ≤ g2 by have := HB2'.out; omega) (.int .u64 77))
                have p3 : (0 ≤ j) = True := eq_true HJ.out.1
                have p4 : (j < (N : Int)) = True := eq_true hj
                have p5 : (j < n) = True := eq_true (by rw [← hNn]; exact hj)
                have HJ2 := Aside0.mk hj
                clear hj hxs gb gl P1 G1
                as_aux_lemma =>
                go_wp2
                go_roundg (gk - 1)
                case measure => have := HJ.out; have := HJ2.out; omega
                case rel => exact ⟨wrap64 (j + 1), xs.set j.toNat 77, rfl, ⟨by have := HJ.out; have := HJ2.out; have := HN.out; unfold wrap64; omega⟩, HP1, HT', HBT'⟩
              · have d0 : decide (j < (N : Int)) = false := decide_eq_false hj
                have d0' : decide (j < n) = false := by rw [← hNn]; exact d0
                clear hj
                as_aux_lemma =>
                go_wp2_with (first 
                      | (go_at_call 30; refine (ar_mark (p := p) (g := g) (ws := ws) (used := used) (high := high) ?ha).mono ?_; (case ha => (first | exact HT.out | (refine HT.out.below ?_; repeat (first | exact Below.refl _ _ | refine below_alloc ?_ _ | refine pw_below_drewN ?_ _)))); rintro e w33 ⟨rfl, rfl⟩)
                      | (go_at_call 31; refine (ar_high (p := p) (g := g) (ws := ws) (used := used) (high := high) ?ha).mono ?_; (case ha => (first | exact HT.out | (refine HT.out.below ?_; repeat (first | exact Below.refl _ _ | refine below_alloc ?_ _ | refine pw_below_drewN ?_ _)))); rintro e w33 ⟨rfl, rfl⟩)
                      | (go_at_call 32; refine (ar_left_is (p := p) (g := g) (ws := ws) (used := used) (high := high) (v := wrap64 (n - used)) ?ha (by rw [HLn.out])).mono ?_; (case ha => (first | exact HT.out | (refine HT.out.below ?_; repeat (first | exact Below.refl _ _ | refine below_alloc ?_ _ | refine pw_below_drewN ?_ _)))); rintro e w33 ⟨rfl, ⟨q, rfl⟩⟩)
                      | (go_at_call 29; refine (ar_words (p := p) (g := g) (ws := ws) (used := used) (high := high) ?ha HL1.out).mono ?_; (case ha => (first | exact HT.out | (refine HT.out.below ?_; repeat (first | exact Below.refl _ _ | refine below_alloc ?_ _ | refine pw_below_drewN ?_ _)))); rintro e w33 ⟨v3, rfl, hR3, hB3⟩; obtain ⟨A3, c3, rfl, hlc3, hC3⟩ := Kd.R_reads hR3; rw [HL.out]; have HR3 := Aside0.mk hR3; have HB3 := Aside0.mk hB3; clear hR3 hB3 hlc3 hC3))
                go_roundg (ogk - 1)
                case measure => have := HI.out; omega
                case rel =>
                  refine ⟨used, high, wrap64 (i + 1), ws, rfl, rfl, rfl, ⟨by have := HI.out; have := H30.out; unfold wrap64; omega⟩, HU2, ⟨?_⟩, ⟨?_⟩⟩
                  · refine ArAt.below (w := _) ?_ HB3.out
                    (first | exact HT.out | (refine HT.out.below ?_; repeat (first | exact Below.refl _ _ | refine below_alloc ?_ _ | refine pw_below_drewN ?_ _)))
                  · refine below_three HBT.out HBT.out.size ?_ HB3.out
                    repeat (first | exact Below.refl _ _ | refine below_alloc ?_ _ | refine pw_below_drewN ?_ _)
      · have c1 : decide (i < 30) = false := decide_eq_false h30
        clear hlt h30
        go_wp2
        go_ret
        exact ⟨rfl, HB.out⟩
    · have c0 : decide (i < (ops.length : Int)) = false := decide_eq_false hlt
      clear hlt
      go_wp2
      go_ret
      exact ⟨rfl, HB.out⟩
end Go.Proofs.Ytceghmceoliplaa.Ar
