/- The walk of ArenaApart. No condition. -/
import Derived.Test.YtceghmceoliplaaProg
import Derived.Below
import Derived.Deep.Draws
import Derived.Deep.AppendLies
import Derived.Maps.AppendAt
import Derived.OwnWalk
import Derived.Laws.BytesArg
import Derived.Laws.MakeOwn
import Derived.Laws.OwnMore
import Derived.Deep.OwnRows
import Derived.Tactics
import Derived.Lib.ConvBytes
import Derived.Laws.Slices
import Derived.WalkKit
import Derived.KernelRfl
import Derived.RowKit3
import Derived.Deep.LoopGhost
import Derived.Deep.QuietTactic
import Derived.BigQuiet
import Derived.WideLaws
import Derived.Deep.DeepCutAuto
import Derived.Deep.CutBlock
import Derived.Deep.RegionHeld3
import Derived.Laws.Rows
import Derived.Lib.AppendStr
import Derived.ArgAppend
import Derived.Laws.IdiomCopy
import Derived.OrdersHeld
import Derived.Laws.BitsLemmas
import Derived.RowKit
import Derived.Test.YtceghmceoliplaaWWords
import Derived.Test.YtceghmceoliplaaWLast
import Derived.Test.YtceghmceoliplaaWTab
import Derived.Test.YtceghmceoliplaaWFour
import Derived.Test.YtceghmceoliplaaWQPut
import Derived.Test.YtceghmceoliplaaWApart
import Derived.Test.YtceghmceoliplaaWArr
import Derived.Test.YtceghmceoliplaaWZeros
import Derived.Test.YtceghmceoliplaaWFoot
import Derived.Test.YtceghmceoliplaaWKept
import Derived.Test.YtceghmceoliplaaWShare
import Derived.Test.YtceghmceoliplaaWN
import Derived.Test.YtceghmceoliplaaWFootNe
import Derived.Test.YtceghmceoliplaaWAt
import Derived.Test.YtceghmceoliplaaWEqStruct
import Derived.Test.YtceghmceoliplaaWRepsOne
import Derived.Test.YtceghmceoliplaaWInv
import Derived.Test.YtceghmceoliplaaWInvWords
import Derived.Test.YtceghmceoliplaaWGuard
import Derived.Test.YtceghmceoliplaaWNEv
import Derived.Test.YtceghmceoliplaaWMore
import Derived.Test.YtceghmceoliplaaArV
import Derived.Test.YtceghmceoliplaaPArenaApartx1
namespace Go.Proofs.Ytceghmceoliplaa.Ar
open Go.RowKit Go.Proofs.YtceghmceoliplaaW.PrintWords Go.Proofs.YtceghmceoliplaaW.PrintLast Go.Proofs.YtceghmceoliplaaW.PrintMore
attribute [local go_sem] max2_int min2_int max_two min_two max_three min_three max_four min_four
set_option linter.unusedVariables false
set_option linter.unusedSimpArgs false
open PArenaApart in
theorem apart216 : ∀ m : Fin 6, ∀ n : Fin 6, ∀ k : Fin 6, view_Apart.f 100 (m.val : Int) n.val n.val 0 n.val k.val k.val ((m.val * n.val : Nat) : Int) = some true := by decide +kernel
theorem six_of (a : Int) (h : (Lit.int .u8 a).wf = true) : ∃ M : Nat, (wrap64 a).tmod 6 = (M : Int) ∧ M < 6 := by
  simp [Lit.wf, IntKind.min, IntKind.max, IntKind.signed, IntKind.bits] at h
  have e : wrap64 a = a := by unfold wrap64; omega
  have h1 := Int.tmod_lt_of_pos a (show (0 : Int) < 6 by omega)
  have h2 := Int.tmod_nonneg 6 (show 0 ≤ a by omega)
  obtain ⟨M, hM⟩ := Int.eq_ofNat_of_zero_le h2
  exact ⟨M, by rw [e, hM], by omega⟩
def ApInv (w : World) (p g b3 b4 : Nat) (oP oQ : Obj) (xs : List Int) (y z : Int) (wc : World) : Prop := ArAt wc p g xs y z ∧ Below w.heap.size w wc ∧ wc.heap[b3]? = some oP ∧ wc.heap[b4]? = some oQ
theorem ApInv.store {w : World} {p g b3 b4 : Nat} {oP oQ : Obj} {xs : List Int} {y z : Int} {wc : World} (h : ApInv w p g b3 b4 oP oQ xs y z wc) (ne : b3 ≠ g ∧ b4 ≠ g) (hp : w.heap.size ≤ p ∧ w.heap.size ≤ g) (i : Nat) (x : Int) : ApInv w p g b3 b4 oP oQ (xs.set i x) y z (wc.setCell ⟨g, i, none⟩ (.int .u64 x)) :=
  ⟨h.1.store i x, h.2.1.setCell (p := ⟨g, i, none⟩) hp.2 _, (Below.heap_setCell wc _ _ b3 ne.1).trans h.2.2.1, (Below.heap_setCell wc _ _ b4 ne.2).trans h.2.2.2⟩
theorem ApInv.below {w : World} {p g b3 b4 : Nat} {oP oQ : Obj} {xs : List Int} {y z : Int} {wc wd : World} (h : ApInv w p g b3 b4 oP oQ xs y z wc) (k : Below wc.heap.size wc wd) : ApInv w p g b3 b4 oP oQ xs y z wd := ⟨h.1.below k, below_then h.2.1 h.2.1.size k, blk_below h.2.2.1 k, blk_below h.2.2.2 k⟩
theorem getD_set_self (xs : List Int) (i : Nat) (x : Int) (h : i < xs.length) : (xs.set i x).getD i 0 = x := by simp [List.getD_eq_getElem?_getD, h]
theorem getD_set_ne (xs : List Int) (i j : Nat) (x : Int) (h : i ≠ j) : (xs.set i x).getD j 0 = xs.getD j 0 := by rw [List.getD_eq_getElem?_getD, List.getElem?_set_ne h, ← List.getD_eq_getElem?_getD]
set_option maxHeartbeats 8000000 in
set_option maxRecDepth 100000 in
theorem ArenaApart_walk (w : World) (a0 : Int) (w0 : (Lit.int .u8 a0).wf = true) (a1 : Int) (w1 : (Lit.int .u8 a1).wf = true) (a2 : Int) (w2 : (Lit.int .u8 a2).wf = true) (a3 : Int) (w3 : (Lit.int .u64 a3).wf = true) :
    Calls Try.prog 11 #[.int .u8 a0, .int .u8 a1, .int .u8 a2, .int .u64 a3] w fun e w' => e = .returned (.bool true) ∧ Below w.heap.size w w' := by
  obtain ⟨M, hM, M6⟩ := six_of a0 w0
  obtain ⟨N, hN, N6⟩ := six_of a1 w1
  obtain ⟨K, hK, K6⟩ := six_of a2 w2
  obtain ⟨X1, hX1⟩ : ∃ X : Nat, (M : Int) * (N : Int) = (X : Int) := ⟨M * N, by rw [Int.natCast_mul]⟩
  obtain ⟨X2, hX2⟩ : ∃ X : Nat, (N : Int) * (K : Int) = (X : Int) := ⟨N * K, by rw [Int.natCast_mul]⟩
  have B1 : X1 ≤ 25 := by have := Nat.mul_le_mul (show M ≤ 5 by omega) (show N ≤ 5 by omega); rw [← Int.natCast_mul] at hX1; omega
  have B2 : X2 ≤ 25 := by have := Nat.mul_le_mul (show N ≤ 5 by omega) (show K ≤ 5 by omega); rw [← Int.natCast_mul] at hX2; omega
  have AP : Aside0 (PArenaApart.view_Apart.f 100 M N N 0 N K K X1 = some true) := ⟨by
    have h := apart216 ⟨M, M6⟩ ⟨N, N6⟩ ⟨K, K6⟩
    rw [← hX1, ← Int.natCast_mul]
    exact h⟩
  have m1 : wrap64 ((M : Int) * (N : Int)) = (X1 : Int) := by rw [hX1]; unfold wrap64; omega
  have m2 : wrap64 ((N : Int) * (K : Int)) = (X2 : Int) := by rw [hX2]; unfold wrap64; omega
  obtain ⟨z1, hz1⟩ : ∃ z, mx 0 (X1 : Int) = z := ⟨_, rfl⟩
  obtain ⟨y2, hy2⟩ : ∃ y, (X1 : Int) + (X2 : Int) = y := ⟨_, rfl⟩
  obtain ⟨z2, hz2⟩ : ∃ z, mx z1 y2 = z := ⟨_, rfl⟩
  have HH := Aside0.mk (show M < 6 ∧ N < 6 ∧ K < 6 ∧ X1 ≤ 25 ∧ X2 ≤ 25 ∧ (X1 : Int) + (X2 : Int) = y2 from ⟨M6, N6, K6, B1, B2, hy2⟩)
  have HX1 := Aside0.mk hX1
  have HX2 := Aside0.mk hX2
  have HZ1 := Aside0.mk hz1
  have HZ2 := Aside0.mk hz2
  clear M6 N6 K6 hX1 hX2 B1 B2 hz1 hz2 hy2
  go_enter Try.func11, Try.ntmps11
  go_wp2_with (first
    | (go_at_call 24; refine (ar_alive _).mono ?_; rintro e W1 ⟨rfl, hb1⟩; have HB1 := Aside0.mk hb1; clear hb1)
    | (go_at_call 25; refine (ar_new _ 200 200 (by omega)).mono ?_; rintro e W2 ⟨rfl, h1, hb2⟩; obtain ⟨p, hp⟩ : ∃ p, p = W1.heap.size + 1 := ⟨_, rfl⟩; obtain ⟨g, hg⟩ : ∃ g, g = W1.heap.size := ⟨_, rfl⟩; rw [← hp] at h1 ⊢; rw [← hg] at h1; have HA := Aside0.mk h1; have HB2 := Aside0.mk (HB1.out.trans (hb2.mono HB1.out.size)); have HP : Aside0 (w.heap.size ≤ p ∧ w.heap.size ≤ g) := ⟨by rw [hp, hg]; have := HB1.out.size; omega⟩; clear h1 hb2 hp hg)
    | (go_at_call 26; refine (ar_takeX (X := X1) (y := X1) (z := z1) HA.out (by have := HH.out; omega) (by have := HH.out; omega) (by omega) HX1.out (by omega) HZ1.out (by have := HH.out; simp; omega) (by simp)).mono ?_; clear HA; rintro e W3 ⟨rfl, h3, f3⟩; obtain ⟨l3, hl3⟩ : ∃ l, l = wiped (List.replicate 200 0) (0 : Int).toNat X1 := ⟨_, rfl⟩; rw [← hl3] at h3; have HL3 : Aside0 (l3.length = 200) := ⟨by rw [hl3, wiped_len _ _ _ (by have := HH.out; simp; omega)]; simp⟩; have HA3 := Aside0.mk h3; have HB3 := Aside0.mk (HB2.out.trans (f3.outer HP.out.1 HP.out.2 HB2.out.size)); clear h3 f3 hl3)
    | (go_at_call 26; refine (ar_takeX (X := X2) (y := y2) (z := z2) (HA3.out.below (below_alloc (Below.refl _ W3) (.cells #[.int .i64 M, .int .i64 N, .int .i64 N, .int .i64 0] 48))) (by have := HH.out; omega) (by have := HH.out; omega) (by omega) HX2.out (by have := HH.out; omega) HZ2.out (by have := HH.out; have := HL3.out; omega) (by have := HL3.out; omega)).mono ?_; rintro e W4 ⟨rfl, h4, f4⟩; obtain ⟨l4, hl4⟩ : ∃ l, l = wiped l3 (X1 : Int).toNat X2 := ⟨_, rfl⟩; rw [← hl4] at h4; have HL4 : Aside0 (l4.length = 200) := ⟨by rw [hl4, wiped_len _ _ _ (by have := HH.out; have := HL3.out; omega)]; exact HL3.out⟩; have NE3 : Aside0 (W3.heap.size ≠ p ∧ W3.heap.size ≠ g) := ⟨by have := blk_lt HA3.out.1; omega, by have := blk_lt HA3.out.2; omega⟩; have BP4 := Aside0.mk ((f4.block _ (blk_lt (blk_new W3 (.cells #[.int .i64 M, .int .i64 N, .int .i64 N, .int .i64 0] 48))) NE3.out.1 NE3.out.2).trans (blk_new W3 (.cells #[.int .i64 M, .int .i64 N, .int .i64 N, .int .i64 0] 48))); have HA4 := Aside0.mk h4; have HB4 := Aside0.mk ((below_then HB3.out HB3.out.size (below_alloc (Below.refl _ W3) (.cells #[.int .i64 M, .int .i64 N, .int .i64 N, .int .i64 0] 48))).trans (f4.outer HP.out.1 HP.out.2 (Nat.le_trans HB3.out.size (below_alloc (Below.refl _ W3) (.cells #[.int .i64 M, .int .i64 N, .int .i64 N, .int .i64 0] 48)).size))); have s0 : ∀ o, (W4.alloc o).cell? ⟨W3.heap.size, 0, none⟩ = some (.int .i64 M) := fun o => (blk_cell (blk_below BP4.out (below_alloc (Below.refl _ _) o)) 0).trans rfl; have s1 : ∀ o, (W4.alloc o).cell? ⟨W3.heap.size, 1, none⟩ = some (.int .i64 N) := fun o => (blk_cell (blk_below BP4.out (below_alloc (Below.refl _ _) o)) 1).trans rfl; have s2 : ∀ o, (W4.alloc o).cell? ⟨W3.heap.size, 2, none⟩ = some (.int .i64 N) := fun o => (blk_cell (blk_below BP4.out (below_alloc (Below.refl _ _) o)) 2).trans rfl; have s3 : ∀ o, (W4.alloc o).cell? ⟨W3.heap.size, 3, none⟩ = some (.int .i64 0) := fun o => (blk_cell (blk_below BP4.out (below_alloc (Below.refl _ _) o)) 3).trans rfl; clear h4 f4 hl4)
    | (go_at_call 40; refine (PArenaApart.view_Apart.calls 100 M N N 0 N K K X1 true _ AP.out).mono ?_; rintro e W5 ⟨rfl, hb5⟩; have HA5 := Aside0.mk ((HA4.out.below (below_alloc (Below.refl _ W4) (.cells #[.int .i64 N, .int .i64 K, .int .i64 K, .int .i64 X1] 48))).below hb5); have BP5 := Aside0.mk (blk_below (blk_below BP4.out (below_alloc (Below.refl _ W4) (.cells #[.int .i64 N, .int .i64 K, .int .i64 K, .int .i64 X1] 48))) hb5); have BQ5 := Aside0.mk (blk_below (blk_new W4 (.cells #[.int .i64 N, .int .i64 K, .int .i64 K, .int .i64 X1] 48)) hb5); have HB5 := Aside0.mk (below_then (below_then HB4.out HB4.out.size (below_alloc (Below.refl _ W4) (.cells #[.int .i64 N, .int .i64 K, .int .i64 K, .int .i64 X1] 48))) (Nat.le_trans HB4.out.size (below_alloc (Below.refl _ W4) (.cells #[.int .i64 N, .int .i64 K, .int .i64 K, .int .i64 X1] 48)).size) hb5); clear hb5))
  have c0 : W5.cell? ⟨W3.heap.size, 0, none⟩ = some (.int .i64 M) := (blk_cell BP5.out 0).trans rfl
  have c1 : W5.cell? ⟨W3.heap.size, 1, none⟩ = some (.int .i64 N) := (blk_cell BP5.out 1).trans rfl
  have c2 : W5.cell? ⟨W3.heap.size, 2, none⟩ = some (.int .i64 N) := (blk_cell BP5.out 2).trans rfl
  have c3 : W5.cell? ⟨W3.heap.size, 3, none⟩ = some (.int .i64 0) := (blk_cell BP5.out 3).trans rfl
  have d0 : W5.cell? ⟨W4.heap.size, 0, none⟩ = some (.int .i64 N) := (blk_cell BQ5.out 0).trans rfl
  have d1 : W5.cell? ⟨W4.heap.size, 1, none⟩ = some (.int .i64 K) := (blk_cell BQ5.out 1).trans rfl
  have d2 : W5.cell? ⟨W4.heap.size, 2, none⟩ = some (.int .i64 K) := (blk_cell BQ5.out 2).trans rfl
  have d3 : W5.cell? ⟨W4.heap.size, 3, none⟩ = some (.int .i64 X1) := (blk_cell BQ5.out 3).trans rfl
  clear s0 s1 s2 s3
  have NE : Aside0 (W3.heap.size ≠ g ∧ W4.heap.size ≠ g) := ⟨NE3.out.2, by have := blk_lt HA4.out.2; omega⟩
  go_region_with (first
    | (go_at_call 27; (with_reducible refine (ar_lendX (p := p) (g := g) (ws := l4) (used := y2) (high := z2) (r := M) (c := N) (o := 0) (X := X1) ?h ?h1 ?h2 ?h3 HX1.out ?h4 ?h5 ?h6).mono ?_); (case h => exact HA5.out.below (below_drew (Below.refl _ _))); (case h1 => have := HH.out; omega); (case h2 => have := HH.out; omega); (case h3 => have := HH.out; omega); (case h4 => have := HH.out; omega); (case h5 => have := HH.out; have := HL4.out; omega); (case h6 => have := HL4.out; omega); rintro e W6 ⟨⟨F1, rfl, hF1⟩, hb6⟩; have HF1 := Aside0.mk hF1; have HA6 := Aside0.mk ((HA5.out.below (below_drew (Below.refl _ _))).below hb6); have BP6 := Aside0.mk (blk_below BP5.out (show Below W5.heap.size W5 W6 from below_then (below_drew (Below.refl _ _)) (Nat.le_refl _) hb6)); have BQ6 := Aside0.mk (blk_below BQ5.out (show Below W5.heap.size W5 W6 from below_then (below_drew (Below.refl _ _)) (Nat.le_refl _) hb6)); have HB6 := Aside0.mk (below_then (below_then HB5.out HB5.out.size (below_drew (Below.refl _ _))) HB5.out.size hb6); have d0 : W6.cell? ⟨W4.heap.size, 0, none⟩ = some (.int .i64 N) := (blk_cell BQ6.out 0).trans rfl; have d1 : W6.cell? ⟨W4.heap.size, 1, none⟩ = some (.int .i64 K) := (blk_cell BQ6.out 1).trans rfl; have d2 : W6.cell? ⟨W4.heap.size, 2, none⟩ = some (.int .i64 K) := (blk_cell BQ6.out 2).trans rfl; have d3 : W6.cell? ⟨W4.heap.size, 3, none⟩ = some (.int .i64 X1) := (blk_cell BQ6.out 3).trans rfl; clear hF1 hb6)
    | (go_at_call 27; (with_reducible refine (ar_lendX (p := p) (g := g) (ws := l4) (used := y2) (high := z2) (r := N) (c := K) (o := X1) (X := X2) ?h ?h1 ?h2 ?h3 HX2.out ?h4 ?h5 ?h6).mono ?_); (case h => exact HA6.out); (case h1 => have := HH.out; omega); (case h2 => have := HH.out; omega); (case h3 => have := HH.out; omega); (case h4 => have := HH.out; omega); (case h5 => have := HH.out; have := HL4.out; omega); (case h6 => have := HL4.out; omega); rintro e W7 ⟨⟨F2, rfl, hF2⟩, hb7⟩; have HF2 := Aside0.mk hF2; have HA7 := Aside0.mk (HA6.out.below hb7); have BP7 := Aside0.mk (blk_below BP6.out hb7); have BQ7 := Aside0.mk (blk_below BQ6.out hb7); have HB7 := Aside0.mk (below_then HB6.out HB6.out.size hb7); clear hF2 hb7))
  all_goals
    clear c0 c1 c2 c3 d0 d1 d2 d3 hM hN hK m1 m2
    have I7 : Aside0 (ApInv w p g W3.heap.size W4.heap.size (.cells #[.int .i64 M, .int .i64 N, .int .i64 N, .int .i64 0] 48) (.cells #[.int .i64 N, .int .i64 K, .int .i64 K, .int .i64 X1] 48) l4 y2 z2 W7) := ⟨HA7.out, HB7.out, BP7.out, BQ7.out⟩
    clear HA3 HA4 HA5 HA6 HA7 HB1 HB2 HB3 HB4 HB5 HB6 HB7 BP4 BP5 BP6 BP7 BQ5 BQ6 BQ7
    go_wp2
    go_loopg [19] X1 (fun hk v19 wc => ∃ (j : Int) (xs : List Int), v19 = .int .i64 j ∧ Aside0 (0 ≤ j ∧ j + hk = X1) ∧ Aside0 (xs.length = 200 ∧ ∀ q : Nat, q < j.toNat → xs.getD q 0 = a3) ∧ Aside0 (ApInv w p g W3.heap.size W4.heap.size (.cells #[.int .i64 M, .int .i64 N, .int .i64 N, .int .i64 0] 48) (.cells #[.int .i64 N, .int .i64 K, .int .i64 K, .int .i64 X1] 48) xs y2 z2 wc))
    case atStart => exact ⟨0, l4, rfl, ⟨by omega, by omega⟩, ⟨HL4.out, fun q hq => absurd hq (by simp)⟩, I7⟩
    case round =>
      clear I7
      obtain ⟨j, xs, rfl, HJ, HXS, HI⟩ := hrel
      by_cases hj : j < (X1 : Int)
      · have d0 : decide (j < (X1 : Int)) = true := decide_eq_true hj
        have hF : F1 = 0 := HF1.out (by have := HJ.out; omega)
        subst hF
        have q1 := U64_get HI.out.1.2 (i := j.toNat) (by have := HXS.out.1; have := HJ.out; have := HH.out; omega)
        have q2 := blk_frozen HI.out.1.2 j.toNat
        have p3 : (0 ≤ j) = True := eq_true HJ.out.1
        have p4 : (j < (X1 : Int)) = True := eq_true hj
        have HJ2 := Aside0.mk hj
        clear hj
        as_aux_lemma =>
        go_wp2
        go_roundg (gk - 1)
        case measure => have := HJ.out; have := HJ2.out; omega
        case rel =>
          refine ⟨wrap64 (j + 1), xs.set j.toNat a3, rfl, ⟨by have := HJ.out; have := HJ2.out; have := HH.out; unfold wrap64; omega⟩, ⟨by rw [List.length_set]; exact HXS.out.1, fun q h1 => ?_⟩, ⟨HI.out.store NE.out HP.out _ _⟩⟩
          have h3 : (wrap64 (j + 1)).toNat = j.toNat + 1 := by have := HJ.out; have := HJ2.out; have := HH.out; unfold wrap64; omega
          rw [h3] at h1
          by_cases hq : q = j.toNat
          · subst hq; exact getD_set_self xs _ _ (by have := HXS.out.1; have := HJ.out; have := HJ2.out; have := HH.out; omega)
          · rw [getD_set_ne xs _ _ _ (fun e => hq e.symm)]; exact HXS.out.2 q (by omega)
      · have d0 : decide (j < (X1 : Int)) = false := decide_eq_false hj
        have HF1x := Aside0.mk (show ∀ q : Nat, q < X1 → xs.getD q 0 = a3 from fun q hq => HXS.out.2 q (by omega))
        have HL5 := Aside0.mk HXS.out.1
        clear HXS hj
        go_wp2
        go_loopg [20] X2 (fun hk v20 wc => ∃ (j : Int) (xs : List Int), v20 = .int .i64 j ∧ Aside0 (0 ≤ j ∧ j + hk = X2) ∧ Aside0 (xs.length = 200 ∧ (∀ q : Nat, q < X1 → xs.getD q 0 = a3) ∧ ∀ q : Nat, q < j.toNat → xs.getD (X1 + q) 0 = IntKind.u64.wrap (a3 + 1)) ∧ Aside0 (ApInv w p g W3.heap.size W4.heap.size (.cells #[.int .i64 M, .int .i64 N, .int .i64 N, .int .i64 0] 48) (.cells #[.int .i64 N, .int .i64 K, .int .i64 K, .int .i64 X1] 48) xs y2 z2 wc))
        case atStart => exact ⟨0, xs, rfl, ⟨by omega, by omega⟩, ⟨HL5.out, HF1x.out, fun q hq => absurd hq (by simp)⟩, HI⟩
        case round =>
          clear HI HF1x HL5 d0 HJ
          obtain ⟨j, xs, rfl, HJ, HXS, HI⟩ := hrel
          by_cases hj : j < (X2 : Int)
          · have d0 : decide (j < (X2 : Int)) = true := decide_eq_true hj
            have hF : X1 = F2 := by have := HF2.out (by have := HJ.out; omega); simpa using this.symm
            subst hF
            have q1 := U64_get HI.out.1.2 (i := X1 + j.toNat) (by have := HXS.out.1; have := HJ.out; have := HH.out; omega)
            have q2 := blk_frozen HI.out.1.2 (X1 + j.toNat)
            have p3 : (0 ≤ j) = True := eq_true HJ.out.1
            have p4 : (j < (X2 : Int)) = True := eq_true hj
            have HJ2 := Aside0.mk hj
            clear hj
            as_aux_lemma =>
            go_wp2
            go_roundg (gk - 1)
            case measure => have := HJ.out; have := HJ2.out; omega
            case rel =>
              refine ⟨wrap64 (j + 1), xs.set (X1 + j.toNat) (IntKind.u64.wrap (a3 + 1)), rfl, ⟨by have := HJ.out; have := HJ2.out; have := HH.out; unfold wrap64; omega⟩, ⟨by rw [List.length_set]; exact HXS.out.1, fun q h1 => ?_, fun q h1 => ?_⟩, ⟨HI.out.store NE.out HP.out _ _⟩⟩
              · rw [getD_set_ne xs _ _ _ (by omega)]; exact HXS.out.2.1 q h1
              · have h3 : (wrap64 (j + 1)).toNat = j.toNat + 1 := by have := HJ.out; have := HJ2.out; have := HH.out; unfold wrap64; omega
                rw [h3] at h1
                by_cases hq : q = j.toNat
                · subst hq; exact getD_set_self xs _ _ (by have := HXS.out.1; have := HJ.out; have := HJ2.out; have := HH.out; omega)
                · rw [getD_set_ne xs _ _ _ (by omega)]; exact HXS.out.2.2 q (by omega)
          · have d0 : decide (j < (X2 : Int)) = false := decide_eq_false hj
            have HX := Aside0.mk (show xs.length = 200 ∧ (∀ q : Nat, q < X1 → xs.getD q 0 = a3) ∧ ∀ q : Nat, q < X2 → xs.getD (X1 + q) 0 = IntKind.u64.wrap (a3 + 1) from ⟨HXS.out.1, HXS.out.2.1, fun q hq => HXS.out.2.2 q (by omega)⟩)
            clear HXS hj
            have HXS := HX
            clear HX
            go_wp2
            go_loopg [21] X1 (fun hk v21 wc => ∃ (j : Int), v21 = .int .i64 j ∧ Aside0 (0 ≤ j ∧ j + hk = X1) ∧ Aside0 (ApInv w p g W3.heap.size W4.heap.size (.cells #[.int .i64 M, .int .i64 N, .int .i64 N, .int .i64 0] 48) (.cells #[.int .i64 N, .int .i64 K, .int .i64 K, .int .i64 X1] 48) xs y2 z2 wc))
            case atStart => exact ⟨0, rfl, ⟨by omega, by omega⟩, HI⟩
            case round =>
              clear HI d0
              obtain ⟨j, rfl, HJ, HI⟩ := hrel
              by_cases hj : j < (X1 : Int)
              · have d0 : decide (j < (X1 : Int)) = true := decide_eq_true hj
                have hF : F1 = 0 := HF1.out (by have := HJ.out; omega)
                subst hF
                have q1 := U64_get HI.out.1.2 (i := j.toNat) (by have := HXS.out.1; have := HJ.out; have := HH.out; omega)
                rw [HXS.out.2.1 j.toNat (by have := HJ.out; omega)] at q1
                have p3 : (0 ≤ j) = True := eq_true HJ.out.1
                have p4 : (j < (X1 : Int)) = True := eq_true hj
                have HJ2 := Aside0.mk hj
                clear hj
                as_aux_lemma =>
                go_wp2
                go_roundg (gk - 1)
                case measure => have := HJ.out; have := HJ2.out; omega
                case rel => exact ⟨wrap64 (j + 1), rfl, ⟨by have := HJ.out; have := HJ2.out; have := HH.out; unfold wrap64; omega⟩, HI⟩
              · have d0 : decide (j < (X1 : Int)) = false := decide_eq_false hj
                clear hj
                have m1 : wrap64 ((M : Int) * (N : Int)) = (X1 : Int) := by rw [HX1.out]; have := HH.out; unfold wrap64; omega
                have m2 : wrap64 ((N : Int) * (K : Int)) = (X2 : Int) := by rw [HX2.out]; have := HH.out; unfold wrap64; omega
                have i1 : (0 ≤ (X1 : Int)) = True := eq_true (by omega)
                have i2 : ((X1 : Int) < 200) = True := eq_true (by have := HH.out; omega)
                by_cases hx1 : X1 = 0
                · have b1 : (((X1 : Nat) : Int) == 0) = true := by rw [hx1]; rfl
                  by_cases hx2 : X2 = 0
                  · have b2 : (((X2 : Nat) : Int) == 0) = true := by rw [hx2]; rfl
                    have HE := Aside0.mk hx1
                    have HE2 := Aside0.mk hx2
                    clear hx1 hx2
                    as_aux_lemma =>
                    go_wp2_with (first
                      | (go_at_call 29; refine (ar_words HI.out.1 (by have := HXS.out.1; omega)).mono ?_; rintro e W9 ⟨v9, rfl, hR9, hb9⟩; have HI9 := Aside0.mk (ApInv.below HI.out hb9); obtain ⟨g9, c9, e9, gb9, gl9, cl9, hg9⟩ := Kd.R_form hR9 (by have := HXS.out.1; omega); subst e9; rw [HXS.out.1] at hR9 ⊢; have r0 := (Kd.R_celln 0 hR9 0 (by omega) (by omega)).1; have r1 := (Kd.R_celln 0 hR9 (X1 : Int) (by omega) (by have := HH.out; omega)).1; skip; skip; simp only [Int.toNat_natCast, Int.toNat_zero] at r0 r1; have u3 : W9.cell? ⟨W3.heap.size, 3, none⟩ = some (.int .i64 0) := (blk_cell HI9.out.2.2.1 3).trans rfl; have t3 : W9.cell? ⟨W4.heap.size, 3, none⟩ = some (.int .i64 X1) := (blk_cell HI9.out.2.2.2 3).trans rfl; clear hR9 hb9 gb9 gl9 cl9 hg9))
                    go_ret
                    exact ⟨by first | rfl | (simp; done), HI9.out.2.1⟩
                  · have b2 : (((X2 : Nat) : Int) == 0) = false := by rw [beq_eq_false_iff_ne]; omega
                    have HE := Aside0.mk hx1
                    have HE2 := Aside0.mk hx2
                    clear hx1 hx2
                    as_aux_lemma =>
                    go_wp2_with (first
                      | (go_at_call 29; refine (ar_words HI.out.1 (by have := HXS.out.1; omega)).mono ?_; rintro e W9 ⟨v9, rfl, hR9, hb9⟩; have HI9 := Aside0.mk (ApInv.below HI.out hb9); obtain ⟨g9, c9, e9, gb9, gl9, cl9, hg9⟩ := Kd.R_form hR9 (by have := HXS.out.1; omega); subst e9; rw [HXS.out.1] at hR9 ⊢; have r0 := (Kd.R_celln 0 hR9 0 (by omega) (by omega)).1; have r1 := (Kd.R_celln 0 hR9 (X1 : Int) (by omega) (by have := HH.out; omega)).1; skip; have hv1 : rdOf 0 xs (X1 : Int) = IntKind.u64.wrap (a3 + 1) := HXS.out.2.2 0 (by have := HE2.out; omega); rw [hv1] at r1; simp only [Int.toNat_natCast, Int.toNat_zero] at r0 r1; have u3 : W9.cell? ⟨W3.heap.size, 3, none⟩ = some (.int .i64 0) := (blk_cell HI9.out.2.2.1 3).trans rfl; have t3 : W9.cell? ⟨W4.heap.size, 3, none⟩ = some (.int .i64 X1) := (blk_cell HI9.out.2.2.2 3).trans rfl; clear hR9 hb9 gb9 gl9 cl9 hg9))
                    go_ret
                    exact ⟨by first | rfl | (simp; done), HI9.out.2.1⟩
                · have b1 : (((X1 : Nat) : Int) == 0) = false := by rw [beq_eq_false_iff_ne]; omega
                  by_cases hx2 : X2 = 0
                  · have b2 : (((X2 : Nat) : Int) == 0) = true := by rw [hx2]; rfl
                    have HE := Aside0.mk hx1
                    have HE2 := Aside0.mk hx2
                    clear hx1 hx2
                    as_aux_lemma =>
                    go_wp2_with (first
                      | (go_at_call 29; refine (ar_words HI.out.1 (by have := HXS.out.1; omega)).mono ?_; rintro e W9 ⟨v9, rfl, hR9, hb9⟩; have HI9 := Aside0.mk (ApInv.below HI.out hb9); obtain ⟨g9, c9, e9, gb9, gl9, cl9, hg9⟩ := Kd.R_form hR9 (by have := HXS.out.1; omega); subst e9; rw [HXS.out.1] at hR9 ⊢; have r0 := (Kd.R_celln 0 hR9 0 (by omega) (by omega)).1; have r1 := (Kd.R_celln 0 hR9 (X1 : Int) (by omega) (by have := HH.out; omega)).1; have hv0 : rdOf 0 xs 0 = a3 := HXS.out.2.1 0 (by have := HE.out; omega); rw [hv0] at r0; skip; simp only [Int.toNat_natCast, Int.toNat_zero] at r0 r1; have u3 : W9.cell? ⟨W3.heap.size, 3, none⟩ = some (.int .i64 0) := (blk_cell HI9.out.2.2.1 3).trans rfl; have t3 : W9.cell? ⟨W4.heap.size, 3, none⟩ = some (.int .i64 X1) := (blk_cell HI9.out.2.2.2 3).trans rfl; clear hR9 hb9 gb9 gl9 cl9 hg9))
                    go_ret
                    exact ⟨by first | rfl | (simp; done), HI9.out.2.1⟩
                  · have b2 : (((X2 : Nat) : Int) == 0) = false := by rw [beq_eq_false_iff_ne]; omega
                    have HE := Aside0.mk hx1
                    have HE2 := Aside0.mk hx2
                    clear hx1 hx2
                    as_aux_lemma =>
                    go_wp2_with (first
                      | (go_at_call 29; refine (ar_words HI.out.1 (by have := HXS.out.1; omega)).mono ?_; rintro e W9 ⟨v9, rfl, hR9, hb9⟩; have HI9 := Aside0.mk (ApInv.below HI.out hb9); obtain ⟨g9, c9, e9, gb9, gl9, cl9, hg9⟩ := Kd.R_form hR9 (by have := HXS.out.1; omega); subst e9; rw [HXS.out.1] at hR9 ⊢; have r0 := (Kd.R_celln 0 hR9 0 (by omega) (by omega)).1; have r1 := (Kd.R_celln 0 hR9 (X1 : Int) (by omega) (by have := HH.out; omega)).1; have hv0 : rdOf 0 xs 0 = a3 := HXS.out.2.1 0 (by have := HE.out; omega); rw [hv0] at r0; have hv1 : rdOf 0 xs (X1 : Int) = IntKind.u64.wrap (a3 + 1) := HXS.out.2.2 0 (by have := HE2.out; omega); rw [hv1] at r1; simp only [Int.toNat_natCast, Int.toNat_zero] at r0 r1; have u3 : W9.cell? ⟨W3.heap.size, 3, none⟩ = some (.int .i64 0) := (blk_cell HI9.out.2.2.1 3).trans rfl; have t3 : W9.cell? ⟨W4.heap.size, 3, none⟩ = some (.int .i64 X1) := (blk_cell HI9.out.2.2.2 3).trans rfl; clear hR9 hb9 gb9 gl9 cl9 hg9))
                    go_ret
                    exact ⟨by first | rfl | (simp; done), HI9.out.2.1⟩
end Go.Proofs.Ytceghmceoliplaa.Ar
