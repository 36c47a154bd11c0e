/- Taking words of an arena. No condition. -/
import Derived.Test.YtceghmceoliplaaProg
import Derived.Below
import Derived.Deep.Draws
import Derived.Deep.AppendLies
import Derived.Maps.AppendAt
import Derived.OwnWalk
import Derived.Laws.BytesArg
import Derived.Laws.MakeOwn
import Derived.Laws.OwnMore
import Derived.Deep.OwnRows
import Derived.Tactics
import Derived.Lib.ConvBytes
import Derived.Laws.Slices
import Derived.WalkKit
import Derived.KernelRfl
import Derived.RowKit3
import Derived.Deep.LoopGhost
import Derived.Deep.QuietTactic
import Derived.BigQuiet
import Derived.WideLaws
import Derived.Deep.DeepCutAuto
import Derived.Deep.CutBlock
import Derived.Deep.RegionHeld3
import Derived.Laws.Rows
import Derived.Lib.AppendStr
import Derived.ArgAppend
import Derived.Laws.IdiomCopy
import Derived.OrdersHeld
import Derived.Laws.BitsLemmas
import Derived.RowKit
import Derived.Test.YtceghmceoliplaaWWords
import Derived.Test.YtceghmceoliplaaWLast
import Derived.Test.YtceghmceoliplaaWTab
import Derived.Test.YtceghmceoliplaaWFour
import Derived.Test.YtceghmceoliplaaWQPut
import Derived.Test.YtceghmceoliplaaWApart
import Derived.Test.YtceghmceoliplaaWArr
import Derived.Test.YtceghmceoliplaaWZeros
import Derived.Test.YtceghmceoliplaaWFoot
import Derived.Test.YtceghmceoliplaaWKept
import Derived.Test.YtceghmceoliplaaWShare
import Derived.Test.YtceghmceoliplaaWN
import Derived.Test.YtceghmceoliplaaWFootNe
import Derived.Test.YtceghmceoliplaaWAt
import Derived.Test.YtceghmceoliplaaWEqStruct
import Derived.Test.YtceghmceoliplaaWRepsOne
import Derived.Test.YtceghmceoliplaaWInv
import Derived.Test.YtceghmceoliplaaWInvWords
import Derived.Test.YtceghmceoliplaaWGuard
import Derived.Test.YtceghmceoliplaaWNEv
import Derived.Test.YtceghmceoliplaaWMore
import Derived.Test.YtceghmceoliplaaArB
namespace Go.Proofs.Ytceghmceoliplaa.Ar
open Go.RowKit Go.Proofs.YtceghmceoliplaaW.PrintWords Go.Proofs.YtceghmceoliplaaW.PrintLast Go.Proofs.YtceghmceoliplaaW.PrintMore
attribute [local go_sem] max2_int min2_int max_two min_two max_three min_three max_four min_four
set_option linter.unusedVariables false
set_option linter.unusedSimpArgs false
set_option maxHeartbeats 8000000 in
set_option maxRecDepth 100000 in
theorem ar_take_shape {w : World} {p g : Nat} {ws : List Int} {used high m n : Int} (h : ArAt w p g ws used high) (hm : m < 0 ∨ m > 64 ∨ n < 0 ∨ n > 64) :
    Calls Try.prog 26 #[.pointer (some ⟨p, 0, none⟩), .int .i64 m, .int .i64 n] w fun e w' => e = .returned (.tuple #[.agg #[.int .i64 0, .int .i64 0, .int .i64 0, .int .i64 0], .int .i64 11]) ∧ Below w.heap.size w w' := by
  have HI : ∀ o, Aside0 (Calls Try.prog 48 #[.pointer (some ⟨p, 0, none⟩)] (w.alloc o) fun e w' => e = .returned (.bool true) ∧ w' = w.alloc o) := fun o => ⟨ar_is ((Below.heap_alloc w o p (blk_lt h.1)).trans h.1)⟩
  have hh : (decide (m < 0) = true) ∨ (decide (m < 0) = false ∧ decide (m > 64) = true) ∨ (decide (m < 0) = false ∧ decide (m > 64) = false ∧ decide (n < 0) = true) ∨ (decide (m < 0) = false ∧ decide (m > 64) = false ∧ decide (n < 0) = false ∧ decide (n > 64) = true) := by
    simp only [decide_eq_true_eq, decide_eq_false_iff_not]; omega
  clear h hm
  rcases hh with b0 | ⟨b0, b1⟩ | ⟨b0, b1, b2⟩ | ⟨b0, b1, b2, b3⟩
  all_goals
    go_enter Try.func26, Try.ntmps26
    go_wp2_with (((with_reducible refine gate_callee (f := 48) rfl ?_); refine goesL_ (some 11) rfl rfl Try.func48 (by kernel_rfl) rfl #[.pointer (some ⟨p, 0, none⟩)] rfl (by (try simp only [List.map_toArray, List.map_cons, List.map_nil]); first | done | rfl) ?_; (refine (HI _).out.mono ?_); rintro e w1 ⟨rfl, rfl⟩; refine ⟨_, rfl, ?_⟩))
    refine bodyPost_ret (results_ct rfl _ _ w.heap.size 48 #[.int .i64 0, .int .i64 0, .int .i64 0, .int .i64 0] (0, 0) _ rfl (heap_alloc_new w _) Try.underlying48 rfl (by kernel_rfl)) rfl ?_
    exact ⟨rfl, (Below.refl _ w).alloc (Nat.le_refl _) _⟩
set_option maxHeartbeats 8000000 in
set_option maxRecDepth 100000 in
theorem ar_take_full {w : World} {p g : Nat} {ws : List Int} {used high m n : Int} (h : ArAt w p g ws used high) (hm : 0 ≤ m ∧ m ≤ 64) (hn : 0 ≤ n ∧ n ≤ 64) (hb : m * n > wrap64 (ws.length - used)) :
    Calls Try.prog 26 #[.pointer (some ⟨p, 0, none⟩), .int .i64 m, .int .i64 n] w fun e w' => e = .returned (.tuple #[.agg #[.int .i64 0, .int .i64 0, .int .i64 0, .int .i64 0], .int .i64 14]) ∧ Below w.heap.size w w' := by
  have HI : ∀ o, Aside0 (Calls Try.prog 48 #[.pointer (some ⟨p, 0, none⟩)] (w.alloc o) fun e w' => e = .returned (.bool true) ∧ w' = w.alloc o) := fun o => ⟨ar_is ((Below.heap_alloc w o p (blk_lt h.1)).trans h.1)⟩
  have HL : ∀ o, Aside0 (Calls Try.prog 32 #[.pointer (some ⟨p, 0, none⟩)] (w.alloc o) fun e w' => e = .returned (.int .i64 (wrap64 (ws.length - used))) ∧ Drawn0 (w.alloc o) w') := fun o => ⟨ar_left (h.below ((Below.refl _ w).alloc (Nat.le_refl _) o))⟩
  have b0 : decide (m < 0) = false := decide_eq_false (by omega)
  have b1 : decide (m > 64) = false := decide_eq_false (by omega)
  have b2 : decide (n < 0) = false := decide_eq_false (by omega)
  have b3 : decide (n > 64) = false := decide_eq_false (by omega)
  have hw : wrap64 (m * n) = m * n := by
    obtain ⟨M, rfl⟩ := Int.eq_ofNat_of_zero_le hm.1
    obtain ⟨N, rfl⟩ := Int.eq_ofNat_of_zero_le hn.1
    have := Nat.mul_le_mul (show M ≤ 64 by omega) (show N ≤ 64 by omega)
    rw [← Int.natCast_mul]
    unfold wrap64; omega
  have b4 : decide (wrap64 (m * n) > wrap64 (ws.length - used)) = true := decide_eq_true (by rw [hw]; exact hb)
  clear h hm hn hb hw
  go_enter Try.func26, Try.ntmps26
  go_wp2_with (first | ((with_reducible refine gate_callee (f := 48) rfl ?_); refine goesL_ (some 11) rfl rfl Try.func48 (by kernel_rfl) rfl #[.pointer (some ⟨p, 0, none⟩)] rfl (by (try simp only [List.map_toArray, List.map_cons, List.map_nil]); first | done | rfl) ?_; (refine (HI _).out.mono ?_); rintro e w1 ⟨rfl, rfl⟩; refine ⟨_, rfl, ?_⟩) | ((with_reducible refine gate_callee (f := 32) rfl ?_); refine goesL_ (some 35) rfl rfl Try.func32 (by kernel_rfl) rfl #[.pointer (some ⟨p, 0, none⟩)] rfl (by (try simp only [List.map_toArray, List.map_cons, List.map_nil]); first | done | rfl) ?_; (refine (HL _).out.mono ?_); rintro e w1 ⟨rfl, ⟨q, rfl⟩⟩; refine ⟨_, rfl, ?_⟩))
  refine bodyPost_ret (results_ct rfl _ _ w.heap.size 48 #[.int .i64 0, .int .i64 0, .int .i64 0, .int .i64 0] (0, 0) _ rfl (blk_put (cs := #[.int .i64 0, .int .i64 0, .int .i64 0, .int .i64 0]) (blk_put (cs := #[.int .i64 0, .int .i64 0, .int .i64 0, .int .i64 0]) (blk_put (cs := #[.int .i64 0, .int .i64 0, .int .i64 0, .int .i64 0]) (blk_put (cs := #[.int .i64 0, .int .i64 0, .int .i64 0, .int .i64 0]) (blk_drewN (heap_alloc_new w _) _) 0 _ rfl) 1 _ rfl) 2 _ rfl) 3 _ rfl) Try.underlying48 rfl (by kernel_rfl)) rfl ?_
  exact ⟨rfl, ((((pw_below_drewN ((Below.refl _ w).alloc (Nat.le_refl _) _) _).setCell (Nat.le_refl _) _).setCell (Nat.le_refl _) _).setCell (Nat.le_refl _) _).setCell (Nat.le_refl _) _⟩
theorem ArAt.wiped {w w' : World} {p g : Nat} {ws : List Int} {used high : Int} (h : ArAt w p g ws used high) {f n : Nat} (hf : f + n ≤ ws.length) (h1 : w'.heap[g]? = some (.cells (U64 (wiped ws f n)) 40 (0, 0))) (h2 : w.grownBy w' (some g)) : ArAt w' p g (wiped ws f n) used high := by
  refine ⟨?_, h1⟩
  rw [wiped_len ws f n hf]
  exact blk_grown h.1 h2 (fun e => h.ne (by injection e))
theorem dst_lh {P : Program} {t e : TypeId} {i : TypeInfo} (ht : P.underlying t = some (.slice e)) (hi : P.info? e = some i) (hsz : i.size = 1) (g n c : Nat) (x y : Int) (h0 : 0 ≤ x) (hm : x ≤ y) (hc : y ≤ c) (W : World) :
    (Instr.slice t (.slice (some ⟨g, 0, none⟩) n c) (some (.int .i64 x)) (some (.int .i64 y)) none).run P W = .ok (.slice (some ⟨g, if (c : Int) = x then 0 else x.toNat, none⟩) (y.toNat - x.toNat) (c - x.toNat)) W := by
  have hel : P.elem t = e := by simp [Program.elem, ht]
  have hu : P.underlying t = some (.slice (P.elem t)) := by rw [hel]; exact ht
  rw [run_slice_lh W t _ n c hu .i64 .i64 x y h0 hm hc, hel]
  have ha : (⟨g, 0, none⟩ : Addr).add x.toNat = ⟨g, x.toNat, none⟩ := by unfold Addr.add; split <;> simp_all
  by_cases hne : (c : Int) = x
  · have hne' : c = x.toNat := by omega
    simp [sizeOf, typeInfo, hi, hsz, sliced, Result.andThen, hne, ← hne']
  · have hne' : ¬ c = x.toNat := by omega
    simp [sizeOf, typeInfo, hi, hsz, sliced, Result.andThen, hne, hne', ha]
theorem dst_lhm {P : Program} {t e : TypeId} {i : TypeInfo} (ht : P.underlying t = some (.slice e)) (hi : P.info? e = some i) (hsz : i.size = 1) (g n c : Nat) (x y : Int) (h0 : 0 ≤ x) (hm : x ≤ y) (hc : y ≤ c) (W : World) :
    (Instr.slice t (.slice (some ⟨g, 0, none⟩) n c) (some (.int .i64 x)) (some (.int .i64 y)) (some (.int .i64 y))).run P W = .ok (.slice (some ⟨g, if y = x then 0 else x.toNat, none⟩) (y.toNat - x.toNat) (y.toNat - x.toNat)) W := by
  have hel : P.elem t = e := by simp [Program.elem, ht]
  have hu : P.underlying t = some (.slice (P.elem t)) := by rw [hel]; exact ht
  rw [run_slice_lhm W t _ n c hu .i64 .i64 .i64 x y y h0 hm (Int.le_refl _) hc, hel]
  have ha : (⟨g, 0, none⟩ : Addr).add x.toNat = ⟨g, x.toNat, none⟩ := by unfold Addr.add; split <;> simp_all
  by_cases hne : y = x
  · subst hne
    simp [sizeOf, typeInfo, hi, hsz, sliced, Result.andThen]
  · have hne' : ¬ y.toNat = x.toNat := by omega
    simp [sizeOf, typeInfo, hi, hsz, sliced, Result.andThen, hne, hne', ha]
set_option maxHeartbeats 8000000 in
set_option maxRecDepth 100000 in
theorem ar_take {w : World} {p g : Nat} {ws : List Int} {used high m n : Int} (h : ArAt w p g ws used high) (hm : 0 ≤ m ∧ m ≤ 64) (hn : 0 ≤ n ∧ n ≤ 64) (hu : 0 ≤ used) (hb : used + m * n ≤ ws.length) (hl : ws.length ≤ 1048576) :
    Calls Try.prog 26 #[.pointer (some ⟨p, 0, none⟩), .int .i64 m, .int .i64 n] w fun e w' => e = .returned (.tuple #[.agg #[.int .i64 m, .int .i64 n, .int .i64 n, .int .i64 used], .int .i64 0]) ∧ ArAt w' p g (wiped ws used.toNat (m * n).toNat) (used + m * n) (mx high (used + m * n)) ∧ Fr p g w w' := by
  have HI : ∀ o, Aside0 (Calls Try.prog 48 #[.pointer (some ⟨p, 0, none⟩)] (w.alloc o) fun e w' => e = .returned (.bool true) ∧ w' = w.alloc o) := fun o => ⟨ar_is ((Below.heap_alloc w o p (blk_lt h.1)).trans h.1)⟩
  have HL : ∀ o, Aside0 (Calls Try.prog 32 #[.pointer (some ⟨p, 0, none⟩)] (w.alloc o) fun e w' => e = .returned (.int .i64 (wrap64 (ws.length - used))) ∧ ArAt w' p g ws used high ∧ w'.heap[w.heap.size]? = some o ∧ Fr p g w w') := fun o => by
    have h1 := h.below ((Below.refl _ w).alloc (Nat.le_refl _) o)
    refine ⟨(ar_left h1).mono ?_⟩
    rintro e w' ⟨rfl, ⟨q, rfl⟩⟩
    exact ⟨rfl, h1.below (pw_below_drewN (Below.refl _ _) _), blk_drewN (heap_alloc_new w o) _, ((Fr.refl p g w).alloc o).drewN _⟩
  have b0 : decide (m < 0) = false := decide_eq_false (by omega)
  have b1 : decide (m > 64) = false := decide_eq_false (by omega)
  have b2 : decide (n < 0) = false := decide_eq_false (by omega)
  have b3 : decide (n > 64) = false := decide_eq_false (by omega)
  obtain ⟨x, hx⟩ : ∃ x, m * n = x := ⟨_, rfl⟩
  have hx0 : 0 ≤ x := by rw [← hx]; exact Int.mul_nonneg hm.1 hn.1
  rw [hx] at hb
  obtain ⟨y, hy⟩ : ∃ y, used + x = y := ⟨_, rfl⟩
  have w1 : wrap64 (m * n) = x := by rw [hx]; unfold wrap64; omega
  have w2 : wrap64 (used + x) = y := by unfold wrap64; omega
  have w3 : wrap64 (used + wrap64 (m * n)) = y := by rw [w1]; exact w2
  have b4 : decide (x > wrap64 (ws.length - used)) = false := decide_eq_false (by unfold wrap64; omega)
  have HA := Aside0.mk h
  have HX := Aside0.mk hx
  have HY := Aside0.mk hy
  have HB := Aside0.mk (show 0 ≤ used ∧ 0 ≤ x ∧ used + x ≤ ws.length ∧ ws.length ≤ 1048576 from ⟨hu, hx0, hb, hl⟩)
  clear h hm hn hb hx hy hx0 hu hl
  go_enter Try.func26, Try.ntmps26
  go_wp2_with (first | ((with_reducible refine gate_callee (f := 48) rfl ?_); refine goesL_ (some 11) rfl rfl Try.func48 (by kernel_rfl) rfl #[.pointer (some ⟨p, 0, none⟩)] rfl (by (try simp only [List.map_toArray, List.map_cons, List.map_nil]); first | done | rfl) ?_; (refine (HI _).out.mono ?_); rintro e w1 ⟨rfl, rfl⟩; refine ⟨_, rfl, ?_⟩) | ((with_reducible refine gate_callee (f := 32) rfl ?_); refine goesL_ (some 35) rfl rfl Try.func32 (by kernel_rfl) rfl #[.pointer (some ⟨p, 0, none⟩)] rfl (by (try simp only [List.map_toArray, List.map_cons, List.map_nil]); first | done | rfl) ?_; (refine (HL _).out.mono ?_); rintro e w1 ⟨rfl, HA1, BK1, FR1⟩; have HA1 := Aside0.mk HA1; have BK1 := Aside0.mk BK1; have FR1 := Aside0.mk FR1; have hc10 : w1.cell? ⟨p, 0, none⟩ = some (.slice (some ⟨g, 0, none⟩) ws.length ws.length) := (blk_cell HA1.out.1 0).trans rfl; have hc11 : w1.cell? ⟨p, 1, none⟩ = some (.int .i64 used) := (blk_cell HA1.out.1 1).trans rfl; have hf11 := blk_frozen HA1.out.1 1; have hsz := FR1.out.size; have hca1 : ∀ o, (w1.alloc o).cell? ⟨p, 1, none⟩ = some (.int .i64 used) := fun o => (blk_cell (HA1.out.below ((Below.refl _ w1).alloc (Nat.le_refl _) o)).1 1).trans rfl; have hfa1 : ∀ o, (w1.alloc o).frozen? ⟨p, 1, none⟩ = false := fun o => blk_frozen (HA1.out.below ((Below.refl _ w1).alloc (Nat.le_refl _) o)).1 1; refine ⟨_, rfl, ?_⟩))
  have hT : ∀ W : World, (zeroValue 40).run Try.prog W = .ok (.int .u64 0) W := Try.zeroValue40
  have HA2 := Aside0.mk ((HA1.out.below ((Below.refl _ w1).alloc (Nat.le_refl _) (.cells #[.int .i64 m, .int .i64 n, .int .i64 n, .int .i64 used] 48))).used y)
  have FR2 := Aside0.mk ((FR1.out.alloc (.cells #[.int .i64 m, .int .i64 n, .int .i64 n, .int .i64 used] 48)).own 1 (.int .i64 y))
  have hp1 := blk_lt HA1.out.1
  have hg1 := blk_lt HA1.out.2
  have hb1 := blk_lt BK1.out
  have hp0 := blk_lt HA.out.1
  have BK6 := Aside0.mk (blk_far (blk_below BK1.out ((Below.refl _ w1).alloc (Nat.le_refl _) (.cells #[.int .i64 m, .int .i64 n, .int .i64 n, .int .i64 used] 48))) (p := ⟨p, 1, none⟩) (fun e => by have e1 : w.heap.size = p := e; omega) (.int .i64 y))
  have BK8 := Aside0.mk (blk_far (blk_new w1 (.cells #[.int .i64 m, .int .i64 n, .int .i64 n, .int .i64 used] 48)) (p := ⟨p, 1, none⟩) (fun e => by have e1 : w1.heap.size = p := e; omega) (.int .i64 y))
  have N8 : Aside0 (p ≠ w1.heap.size ∧ g ≠ w1.heap.size ∧ w.heap.size ≠ w1.heap.size ∧ w.heap.size ≠ p ∧ w.heap.size ≠ g ∧ w.heap.size ≤ w1.heap.size) := ⟨by omega, by omega, by omega, by omega, by have := blk_lt HA.out.2; omega, by omega⟩
  clear hp1 hg1 hb1 hp0 hsz
  generalize World.setCell (w1.alloc (.cells #[.int .i64 m, .int .i64 n, .int .i64 n, .int .i64 used] 48)) ⟨p, 1, none⟩ (.int .i64 y) = W2 at HA2 FR2 BK6 BK8 ⊢
  clear hca1 hfa1 hc10 hc11 hf11
  clear HA1 BK1 FR1
  generalize w1.heap.size = b8 at *
  have d0 : W2.cell? ⟨p, 0, none⟩ = some (.slice (some ⟨g, 0, none⟩) ws.length ws.length) := (blk_cell HA2.out.1 0).trans rfl
  have d1 : W2.cell? ⟨p, 1, none⟩ = some (.int .i64 y) := (blk_cell HA2.out.1 1).trans rfl
  have d8 : W2.cell? ⟨b8, 3, none⟩ = some (.int .i64 used) := (blk_cell BK8.out 3).trans rfl
  obtain ⟨F, X, C, HF, hsl⟩ : ∃ F X C : Nat, Aside0 (X = x.toNat ∧ (0 < X → F = used.toNat)) ∧ ∀ W : World, (Instr.slice 34 (.slice (some ⟨g, 0, none⟩) ws.length ws.length) (some (.int .i64 used)) (some (.int .i64 y)) none).run Try.prog W = .ok (.slice (some ⟨g, F, none⟩) X C) W := by
    obtain ⟨i0, hi, hz⟩ := Option.map_eq_some_iff.1 info40
    simp only [Prod.mk.injEq] at hz
    have hb := HB.out
    have hy := HY.out
    refine ⟨_, _, _, ⟨?_⟩, fun W => dst_lh Try.underlying34 hi hz.2.1 g ws.length ws.length used y (by omega) (by omega) (by omega) W⟩
    refine ⟨by omega, fun h => ?_⟩
    rw [if_neg (by omega)]
  go_region_law (refine step_clear rfl (.tmp 66) 34 40 rfl Try.underlying34 hT (A := ⟨g, F, none⟩) (f := used.toNat) (n := X) (c := C) (ws := ws) rfl HA2.out.2 (by have := HB.out; have := HF.out; omega) (fun h => by rw [HF.out.2 h]) ?_; intro w3 h3 g3; have HA3 := Aside0.mk ((HA2.out.below (below_drew (Below.refl _ W2))).wiped (by have := HB.out; have := HF.out; omega) h3 g3); have FR3 := Aside0.mk (FR2.out.drew.grown g3); have BK63 := Aside0.mk (blk_grown (w := W2.drew) BK6.out g3 (fun e => N8.out.2.2.2.2.1 (by injection e))); have BK83 := Aside0.mk (blk_grown (w := W2.drew) BK8.out g3 (fun e => N8.out.2.1 (by injection e with e; exact e.symm))); clear h3 g3; have k1 : w3.cell? ⟨p, 1, none⟩ = some (.int .i64 y) := (blk_cell HA3.out.1 1).trans rfl; have k2 : w3.cell? ⟨p, 2, none⟩ = some (.int .i64 high) := (blk_cell HA3.out.1 2).trans rfl; have kf2 := blk_frozen HA3.out.1 2; have k8 := blk_cell BK83.out; have kf8 := blk_frozen BK83.out)
  all_goals go_wp2
  all_goals go_region
  all_goals
    obtain ⟨z, hz⟩ : ∃ z, mx high y = z := ⟨_, rfl⟩
    rw [show (if high < y then y else high) = z from hz]
    have HZ := Aside0.mk hz
    clear hz
    have HA4 := Aside0.mk (((HA3.out.high z)).below (below_drew (Below.refl _ _)))
    have FR4 := Aside0.mk ((FR3.out.own 2 (.int .i64 z)).drew)
    have BK64 := Aside0.mk (blk_far BK63.out (p := ⟨p, 2, none⟩) (fun e => N8.out.2.2.2.1 e) (.int .i64 z))
    have BK84 := Aside0.mk (blk_far BK83.out (p := ⟨p, 2, none⟩) (fun e => N8.out.1 e.symm) (.int .i64 z))
    replace BK64 : Aside0 (((w3.setCell ⟨p, 2, none⟩ (.int .i64 z)).drew).heap[w.heap.size]? = _) := BK64
    replace BK84 : Aside0 (((w3.setCell ⟨p, 2, none⟩ (.int .i64 z)).drew).heap[b8]? = _) := BK84
    generalize (w3.setCell ⟨p, 2, none⟩ (.int .i64 z)).drew = W4 at *
    clear k1 k2 kf2 k8 kf8
    have k80 : W4.cell? ⟨b8, 0, none⟩ = some (.int .i64 m) := (blk_cell BK84.out 0).trans rfl
    have k81 : W4.cell? ⟨b8, 1, none⟩ = some (.int .i64 n) := (blk_cell BK84.out 1).trans rfl
    have k82 : W4.cell? ⟨b8, 2, none⟩ = some (.int .i64 n) := (blk_cell BK84.out 2).trans rfl
    have k83 : W4.cell? ⟨b8, 3, none⟩ = some (.int .i64 used) := (blk_cell BK84.out 3).trans rfl
    have k60 : W4.cell? ⟨w.heap.size, 0, none⟩ = some (.int .i64 0) := (blk_cell BK64.out 0).trans rfl
    have k61 : W4.cell? ⟨w.heap.size, 1, none⟩ = some (.int .i64 0) := (blk_cell BK64.out 1).trans rfl
    have k62 : W4.cell? ⟨w.heap.size, 2, none⟩ = some (.int .i64 0) := (blk_cell BK64.out 2).trans rfl
    have k63 : W4.cell? ⟨w.heap.size, 3, none⟩ = some (.int .i64 0) := (blk_cell BK64.out 3).trans rfl
    have kf6 := blk_frozen BK64.out
    go_wp2
    refine bodyPost_ret (results_ct rfl _ _ w.heap.size 48 #[.int .i64 m, .int .i64 n, .int .i64 n, .int .i64 used] (0, 0) _ rfl (blk_put (cs := #[.int .i64 m, .int .i64 n, .int .i64 n, .int .i64 0]) (blk_put (cs := #[.int .i64 m, .int .i64 n, .int .i64 0, .int .i64 0]) (blk_put (cs := #[.int .i64 m, .int .i64 0, .int .i64 0, .int .i64 0]) (blk_put (cs := #[.int .i64 0, .int .i64 0, .int .i64 0, .int .i64 0]) BK64.out 0 _ rfl) 1 _ rfl) 2 _ rfl) 3 _ rfl) Try.underlying48 rfl (by kernel_rfl)) rfl ?_
    have e1 : (m * n).toNat = X := by rw [HX.out]; exact HF.out.1.symm
    have q1 : p ≠ w.heap.size := fun e => N8.out.2.2.2.1 e.symm
    have q2 : g ≠ w.heap.size := fun e => N8.out.2.2.2.2.1 e.symm
    refine ⟨rfl, ?_, ((((FR4.out.new (Nat.le_refl _) 0 _).new (Nat.le_refl _) 1 _).new (Nat.le_refl _) 2 _).new (Nat.le_refl _) 3 _)⟩
    rw [e1, HX.out, HY.out, HZ.out]
    exact ((((HA4.out.far q1 q2 0 _).far q1 q2 1 _).far q1 q2 2 _).far q1 q2 3 _)
end Go.Proofs.Ytceghmceoliplaa.Ar
