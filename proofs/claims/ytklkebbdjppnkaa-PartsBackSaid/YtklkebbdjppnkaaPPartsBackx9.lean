-- PRINTED by print.py (a twelfth state) out of the translation. Not trusted: Lean checks it.
import Derived.Test.YtklkebbdjppnkaaPPartsBackx0
import Derived.Test.YtklkebbdjppnkaaPPartsBackx1
import Derived.Test.YtklkebbdjppnkaaPPartsBackx3
import Derived.Test.YtklkebbdjppnkaaPPartsBackx4
import Derived.Test.YtklkebbdjppnkaaPPartsBackx5
import Derived.Test.YtklkebbdjppnkaaPPartsBackx7
import Derived.Test.YtklkebbdjppnkaaPPartsBackx8
namespace Go.Proofs.Ytklkebbdjppnkaa.PPartsBack
open Go.RowKit Go.Proofs.YtklkebbdjppnkaaW.PrintWords Go.Proofs.YtklkebbdjppnkaaW.PrintLast Go.Proofs.YtklkebbdjppnkaaW.PrintMore
attribute [local go_sem] max2_int min2_int max_two min_two max_three min_three max_four min_four   -- for this text's walks alone
set_option linter.unusedVariables false
set_option linter.unusedSimpArgs false

/-! ### vernierlaw06_PartsBack: function 6 -/
mutual
def vernierlaw06_PartsBack.j0 : Nat → Bool → Int → Int → Option (Bool)
  | 0, _, _, _ => none
  | k + 1, x1, x2, x3 => (parts_Exact.f k x1 x2 x3).bind fun bt281 => (if x3 ≥ (-16384) then (vernierlaw06_PartsBack.j1 k x1 x2 x3 bt281.1 bt281.2 (decide (x3 ≤ 16384))) else (vernierlaw06_PartsBack.j1 k x1 x2 x3 bt281.1 bt281.2 false))
def vernierlaw06_PartsBack.j1 : Nat → Bool → Int → Int → Int → Bool → Bool → Option (Bool)
  | 0, _, _, _, _, _, _ => none
  | k + 1, x1, x2, x3, x17, x18, x19 => if x19 = true then (vernierlaw06_PartsBack.j2 k x1 x2 x3 x17 x18 x19 (x2 != 0)) else (vernierlaw06_PartsBack.j2 k x1 x2 x3 x17 x18 x19 false)
def vernierlaw06_PartsBack.j2 : Nat → Bool → Int → Int → Int → Bool → Bool → Bool → Option (Bool)
  | 0, _, _, _, _, _, _, _ => none
  | k + 1, x1, x2, x3, x17, x18, x19, x84 => if x84 = true then ((vernierref01_Word.f k x2).bind fun t283 => ((vernierref06_Round.f k x1 t283 (([1] : List Int)) x3 0).bind fun bt289 => (vernierlaw06_PartsBack.j3 k x2 x3 x17 x18 (bt289.2 == 0)))) else (vernierlaw06_PartsBack.j3 k x2 x3 x17 x18 x19)
def vernierlaw06_PartsBack.j3 : Nat → Int → Int → Int → Bool → Bool → Option (Bool)
  | 0, _, _, _, _, _ => none
  | k + 1, x2, x3, x17, x18, x19 => if (x18 != x19) = true then (some false) else (if x18 = true then ((vernierref06_Split.f x17).bind fun bt291 => ((vernierref01_Word.f k bt291.2.1).bind fun t294 => ((vernierref01_Shl.f k t294 (mn (wrap64 (bt291.2.2 - (mn bt291.2.2 x3))) 40000)).bind fun t297 => ((vernierref01_Word.f k x2).bind fun t300 => ((vernierref01_Shl.f k t300 (mn (wrap64 (x3 - (mn bt291.2.2 x3))) 40000)).bind fun t303 => ((vernierref01_Cmp.f k t297 t303).bind fun t306 => (some (t306 == 0)))))))) else (some (x17 == 0)))
end
def vernierlaw06_PartsBack.f (k : Nat) (a0 : Int) (a1 : Bool) (a2 : Int) (a3 : Int) : Option (Bool) := (vernierlaw06_alive.f).bind fun t272 => (if t272 = true then ((parts_Split.f a0).bind fun bt273 => (if bt273.2.2.2 = 0 then ((parts_Exact.f k bt273.1 bt273.2.1 bt273.2.2.1).bind fun bt277 => ((parts_Round.f k bt273.1 0 bt273.2.1 bt273.2.2.1 false 0).bind fun bt279 => (if bt277.2 = true then (if bt277.1 = a0 then (if bt279.1 = a0 then (if bt279.2 = 0 then (vernierlaw06_PartsBack.j0 k a1 a2 a3) else (some false)) else (some false)) else (some false)) else (some false)))) else (vernierlaw06_PartsBack.j0 k a1 a2 a3))) else (some false))
theorem vernierlaw06_PartsBack.mono_l : ∀ k, (∀ y0 y1 y2, LeO (vernierlaw06_PartsBack.j0 k y0 y1 y2) (vernierlaw06_PartsBack.j0 (k + 1) y0 y1 y2)) ∧ (∀ y0 y1 y2 y3 y4 y5, LeO (vernierlaw06_PartsBack.j1 k y0 y1 y2 y3 y4 y5) (vernierlaw06_PartsBack.j1 (k + 1) y0 y1 y2 y3 y4 y5)) ∧ (∀ y0 y1 y2 y3 y4 y5 y6, LeO (vernierlaw06_PartsBack.j2 k y0 y1 y2 y3 y4 y5 y6) (vernierlaw06_PartsBack.j2 (k + 1) y0 y1 y2 y3 y4 y5 y6)) ∧ (∀ y0 y1 y2 y3 y4, LeO (vernierlaw06_PartsBack.j3 k y0 y1 y2 y3 y4) (vernierlaw06_PartsBack.j3 (k + 1) y0 y1 y2 y3 y4))
  | 0 => ⟨fun _ _ _ r h => by simp [vernierlaw06_PartsBack.j0] at h, fun _ _ _ _ _ _ r h => by simp [vernierlaw06_PartsBack.j1] at h, fun _ _ _ _ _ _ _ r h => by simp [vernierlaw06_PartsBack.j2] at h, fun _ _ _ _ _ r h => by simp [vernierlaw06_PartsBack.j3] at h⟩
  | k + 1 => by
    obtain ⟨ih0, ih1, ih2, ih3⟩ := vernierlaw06_PartsBack.mono_l k
    refine ⟨?_, ?_, ?_, ?_⟩
    · intro y0 y1 y2
      unfold vernierlaw06_PartsBack.j0
      repeat' first
      | (with_reducible exact ih0 _ _ _)
      | (with_reducible exact ih1 _ _ _ _ _ _)
      | (with_reducible exact ih2 _ _ _ _ _ _ _)
      | (with_reducible exact ih3 _ _ _ _ _)
      | (with_reducible exact parts_Exact.mono _ _ _ _)
      | (with_reducible exact parts_Round.mono _ _ _ _ _ _ _)
      | (with_reducible exact vernierref01_Cmp.mono _ _ _)
      | (with_reducible exact vernierref01_Shl.mono _ _ _)
      | (with_reducible exact vernierref01_Word.mono _ _)
      | (with_reducible exact vernierref06_Round.mono _ _ _ _ _ _)
      | (with_reducible exact LeO.refl _)
      | (with_reducible exact LeO.none _)
      | (with_reducible refine LeO.ite ?_ ?_)
      | (with_reducible refine LeO.bind ?_ (fun _ => ?_))
      | exact ih0 _ _ _
      | exact ih1 _ _ _ _ _ _
      | exact ih2 _ _ _ _ _ _ _
      | exact ih3 _ _ _ _ _
      | exact parts_Exact.mono _ _ _ _
      | exact parts_Round.mono _ _ _ _ _ _ _
      | exact vernierref01_Cmp.mono _ _ _
      | exact vernierref01_Shl.mono _ _ _
      | exact vernierref01_Word.mono _ _
      | exact vernierref06_Round.mono _ _ _ _ _ _
      | exact LeO.none _
      | refine LeO.ite ?_ ?_
      | refine LeO.bind ?_ (fun _ => ?_)
    · intro y0 y1 y2 y3 y4 y5
      unfold vernierlaw06_PartsBack.j1
      repeat' first
      | (with_reducible exact ih0 _ _ _)
      | (with_reducible exact ih1 _ _ _ _ _ _)
      | (with_reducible exact ih2 _ _ _ _ _ _ _)
      | (with_reducible exact ih3 _ _ _ _ _)
      | (with_reducible exact parts_Exact.mono _ _ _ _)
      | (with_reducible exact parts_Round.mono _ _ _ _ _ _ _)
      | (with_reducible exact vernierref01_Cmp.mono _ _ _)
      | (with_reducible exact vernierref01_Shl.mono _ _ _)
      | (with_reducible exact vernierref01_Word.mono _ _)
      | (with_reducible exact vernierref06_Round.mono _ _ _ _ _ _)
      | (with_reducible exact LeO.refl _)
      | (with_reducible exact LeO.none _)
      | (with_reducible refine LeO.ite ?_ ?_)
      | (with_reducible refine LeO.bind ?_ (fun _ => ?_))
      | exact ih0 _ _ _
      | exact ih1 _ _ _ _ _ _
      | exact ih2 _ _ _ _ _ _ _
      | exact ih3 _ _ _ _ _
      | exact parts_Exact.mono _ _ _ _
      | exact parts_Round.mono _ _ _ _ _ _ _
      | exact vernierref01_Cmp.mono _ _ _
      | exact vernierref01_Shl.mono _ _ _
      | exact vernierref01_Word.mono _ _
      | exact vernierref06_Round.mono _ _ _ _ _ _
      | exact LeO.none _
      | refine LeO.ite ?_ ?_
      | refine LeO.bind ?_ (fun _ => ?_)
    · intro y0 y1 y2 y3 y4 y5 y6
      unfold vernierlaw06_PartsBack.j2
      repeat' first
      | (with_reducible exact ih0 _ _ _)
      | (with_reducible exact ih1 _ _ _ _ _ _)
      | (with_reducible exact ih2 _ _ _ _ _ _ _)
      | (with_reducible exact ih3 _ _ _ _ _)
      | (with_reducible exact parts_Exact.mono _ _ _ _)
      | (with_reducible exact parts_Round.mono _ _ _ _ _ _ _)
      | (with_reducible exact vernierref01_Cmp.mono _ _ _)
      | (with_reducible exact vernierref01_Shl.mono _ _ _)
      | (with_reducible exact vernierref01_Word.mono _ _)
      | (with_reducible exact vernierref06_Round.mono _ _ _ _ _ _)
      | (with_reducible exact LeO.refl _)
      | (with_reducible exact LeO.none _)
      | (with_reducible refine LeO.ite ?_ ?_)
      | (with_reducible refine LeO.bind ?_ (fun _ => ?_))
      | exact ih0 _ _ _
      | exact ih1 _ _ _ _ _ _
      | exact ih2 _ _ _ _ _ _ _
      | exact ih3 _ _ _ _ _
      | exact parts_Exact.mono _ _ _ _
      | exact parts_Round.mono _ _ _ _ _ _ _
      | exact vernierref01_Cmp.mono _ _ _
      | exact vernierref01_Shl.mono _ _ _
      | exact vernierref01_Word.mono _ _
      | exact vernierref06_Round.mono _ _ _ _ _ _
      | exact LeO.none _
      | refine LeO.ite ?_ ?_
      | refine LeO.bind ?_ (fun _ => ?_)
    · intro y0 y1 y2 y3 y4
      unfold vernierlaw06_PartsBack.j3
      repeat' first
      | (with_reducible exact ih0 _ _ _)
      | (with_reducible exact ih1 _ _ _ _ _ _)
      | (with_reducible exact ih2 _ _ _ _ _ _ _)
      | (with_reducible exact ih3 _ _ _ _ _)
      | (with_reducible exact parts_Exact.mono _ _ _ _)
      | (with_reducible exact parts_Round.mono _ _ _ _ _ _ _)
      | (with_reducible exact vernierref01_Cmp.mono _ _ _)
      | (with_reducible exact vernierref01_Shl.mono _ _ _)
      | (with_reducible exact vernierref01_Word.mono _ _)
      | (with_reducible exact vernierref06_Round.mono _ _ _ _ _ _)
      | (with_reducible exact LeO.refl _)
      | (with_reducible exact LeO.none _)
      | (with_reducible refine LeO.ite ?_ ?_)
      | (with_reducible refine LeO.bind ?_ (fun _ => ?_))
      | exact ih0 _ _ _
      | exact ih1 _ _ _ _ _ _
      | exact ih2 _ _ _ _ _ _ _
      | exact ih3 _ _ _ _ _
      | exact parts_Exact.mono _ _ _ _
      | exact parts_Round.mono _ _ _ _ _ _ _
      | exact vernierref01_Cmp.mono _ _ _
      | exact vernierref01_Shl.mono _ _ _
      | exact vernierref01_Word.mono _ _
      | exact vernierref06_Round.mono _ _ _ _ _ _
      | exact LeO.none _
      | refine LeO.ite ?_ ?_
      | refine LeO.bind ?_ (fun _ => ?_)
theorem vernierlaw06_PartsBack.mono : ∀ a0 a1 a2 a3 k, LeO (vernierlaw06_PartsBack.f k a0 a1 a2 a3) (vernierlaw06_PartsBack.f (k + 1) a0 a1 a2 a3) := by
  intro a0 a1 a2 a3 k
  obtain ⟨ih0, ih1, ih2, ih3⟩ := vernierlaw06_PartsBack.mono_l k
  unfold vernierlaw06_PartsBack.f
  repeat' first
      | (with_reducible exact ih0 _ _ _)
      | (with_reducible exact ih1 _ _ _ _ _ _)
      | (with_reducible exact ih2 _ _ _ _ _ _ _)
      | (with_reducible exact ih3 _ _ _ _ _)
      | (with_reducible exact parts_Exact.mono _ _ _ _)
      | (with_reducible exact parts_Round.mono _ _ _ _ _ _ _)
      | (with_reducible exact vernierref01_Cmp.mono _ _ _)
      | (with_reducible exact vernierref01_Shl.mono _ _ _)
      | (with_reducible exact vernierref01_Word.mono _ _)
      | (with_reducible exact vernierref06_Round.mono _ _ _ _ _ _)
      | (with_reducible exact LeO.refl _)
      | (with_reducible exact LeO.none _)
      | (with_reducible refine LeO.ite ?_ ?_)
      | (with_reducible refine LeO.bind ?_ (fun _ => ?_))
      | exact ih0 _ _ _
      | exact ih1 _ _ _ _ _ _
      | exact ih2 _ _ _ _ _ _ _
      | exact ih3 _ _ _ _ _
      | exact parts_Exact.mono _ _ _ _
      | exact parts_Round.mono _ _ _ _ _ _ _
      | exact vernierref01_Cmp.mono _ _ _
      | exact vernierref01_Shl.mono _ _ _
      | exact vernierref01_Word.mono _ _
      | exact vernierref06_Round.mono _ _ _ _ _ _
      | exact LeO.none _
      | refine LeO.ite ?_ ?_
      | refine LeO.bind ?_ (fun _ => ?_)
set_option maxHeartbeats 8000000 in
set_option maxRecDepth 100000 in
theorem vernierlaw06_PartsBack.calls (k : Nat) (a0 : Int) (a1 : Bool) (a2 : Int) (a3 : Int) (r : Bool) (w : World) (h : vernierlaw06_PartsBack.f k a0 a1 a2 a3 = some r) :
    Calls Try.prog 6 #[.int .u64 a0, .bool a1, .int .u64 a2, .int .i64 a3] w fun e w' => e = .returned (.bool r) ∧ Below w.heap.size w w' := by
  have HB := Aside0.mk (Below.refl w.heap.size w)
  have H : ((vernierlaw06_alive.f).bind fun t272 => (if t272 = true then ((parts_Split.f a0).bind fun bt273 => (if bt273.2.2.2 = 0 then ((parts_Exact.f k bt273.1 bt273.2.1 bt273.2.2.1).bind fun bt277 => ((parts_Round.f k bt273.1 0 bt273.2.1 bt273.2.2.1 false 0).bind fun bt279 => (if bt277.2 = true then (if bt277.1 = a0 then (if bt279.1 = a0 then (if bt279.2 = 0 then (vernierlaw06_PartsBack.j0 k a1 a2 a3) else (some false)) else (some false)) else (some false)) else (some false)))) else (vernierlaw06_PartsBack.j0 k a1 a2 a3))) else (some false))) = some r := h
  clear h
  replace H := Option.bind_eq_some_iff.mp H
  obtain ⟨t272, A50, H⟩ := H
  replace H : (if t272 = true then ((parts_Split.f a0).bind fun bt273 => (if bt273.2.2.2 = 0 then ((parts_Exact.f k bt273.1 bt273.2.1 bt273.2.2.1).bind fun bt277 => ((parts_Round.f k bt273.1 0 bt273.2.1 bt273.2.2.1 false 0).bind fun bt279 => (if bt277.2 = true then (if bt277.1 = a0 then (if bt279.1 = a0 then (if bt279.2 = 0 then (vernierlaw06_PartsBack.j0 k a1 a2 a3) else (some false)) else (some false)) else (some false)) else (some false)))) else (vernierlaw06_PartsBack.j0 k a1 a2 a3))) else (some false)) = some r := H
  have A5 := Aside0.mk A50
  clear A50
  by_cases c6 : t272 = true
  · subst c6
    have H1 : ((parts_Split.f a0).bind fun bt273 => (if bt273.2.2.2 = 0 then ((parts_Exact.f k bt273.1 bt273.2.1 bt273.2.2.1).bind fun bt277 => ((parts_Round.f k bt273.1 0 bt273.2.1 bt273.2.2.1 false 0).bind fun bt279 => (if bt277.2 = true then (if bt277.1 = a0 then (if bt279.1 = a0 then (if bt279.2 = 0 then (vernierlaw06_PartsBack.j0 k a1 a2 a3) else (some false)) else (some false)) else (some false)) else (some false)))) else (vernierlaw06_PartsBack.j0 k a1 a2 a3))) = some r := by rw [if_pos rfl] at H; exact H
    clear H
    have H := H1
    clear H1
    replace H := Option.bind_eq_some_iff.mp H
    obtain ⟨⟨t273, t274, t275, t276⟩, A70, H⟩ := H
    replace H : (if t276 = 0 then ((parts_Exact.f k t273 t274 t275).bind fun bt277 => ((parts_Round.f k t273 0 t274 t275 false 0).bind fun bt279 => (if bt277.2 = true then (if bt277.1 = a0 then (if bt279.1 = a0 then (if bt279.2 = 0 then (vernierlaw06_PartsBack.j0 k a1 a2 a3) else (some false)) else (some false)) else (some false)) else (some false)))) else (vernierlaw06_PartsBack.j0 k a1 a2 a3)) = some r := H
    have A7 := Aside0.mk A70
    clear A70
    have HC8 := Aside0.mk H
    clear H
    go_enter Try.func6, Try.ntmps6
    go_upto_if 36 with (first | ((with_reducible refine gate_callee (f := 21) rfl ?_); refine goesL_ (some 26) rfl rfl Try.func21 (by kernel_rfl) rfl #[] rfl (by (try simp only [List.map_toArray, List.map_cons, List.map_nil]); first | done | rfl | (simp only [List.length_drop, List.length_take]; rfl)) ?_; (with_reducible refine (vernierlaw06_alive.calls  true _ A5.out).mono ?_); rintro e w' ⟨rfl, ⟨nd, rfl⟩⟩; refine ⟨_, rfl, ?_⟩) | ((with_reducible refine gate_callee (f := 14) rfl ?_); refine goesL_ (some 30) rfl rfl Try.func14 (by kernel_rfl) rfl #[.int .u64 a0] rfl (by (try simp only [List.map_toArray, List.map_cons, List.map_nil]); first | done | rfl | (simp only [List.length_drop, List.length_take]; rfl)) ?_; (with_reducible refine (parts_Split.calls a0 t273 t274 t275 t276 _ A7.out).mono ?_); rintro e w' ⟨rfl, ⟨nd, rfl⟩⟩; refine ⟨_, rfl, ?_⟩))
    (try simp only [Act.put, List.setIfInBounds_toArray, List.set_cons_zero, List.set_cons_succ])
    go_cut [] (fun wc => ∃ (kq : Nat), Aside0 (vernierlaw06_PartsBack.j0 kq a1 a2 a3 = some r) ∧ Aside0 (kq ≤ k) ∧ Aside0 (Below w.heap.size w wc))
    case first =>
      have H := HC8.out
      clear HC8
      by_cases c9 : t276 = 0
      · rw [if_pos c9] at H
        have c9b0 : (t276 == 0) = true := beq_iff_eq.mpr c9
        have c9b1 : (t276 != 0) = false := bne_eq_false_iff_eq.mpr c9
        clear c9
        (first | rw [c9b0] | (simp only [i64_w, i32_w]; rw [c9b0]) | skip)
        replace H := Option.bind_eq_some_iff.mp H
        obtain ⟨⟨t277, t278⟩, A100, H⟩ := H
        replace H : ((parts_Round.f k t273 0 t274 t275 false 0).bind fun bt279 => (if t278 = true then (if t277 = a0 then (if bt279.1 = a0 then (if bt279.2 = 0 then (vernierlaw06_PartsBack.j0 k a1 a2 a3) else (some false)) else (some false)) else (some false)) else (some false))) = some r := H
        have A10 := Aside0.mk A100
        clear A100
        replace H := Option.bind_eq_some_iff.mp H
        obtain ⟨⟨t279, t280⟩, A110, H⟩ := H
        replace H : (if t278 = true then (if t277 = a0 then (if t279 = a0 then (if t280 = 0 then (vernierlaw06_PartsBack.j0 k a1 a2 a3) else (some false)) else (some false)) else (some false)) else (some false)) = some r := H
        have A11 := Aside0.mk A110
        clear A110
        by_cases c12 : t278 = true
        · subst c12
          have H1 : (if t277 = a0 then (if t279 = a0 then (if t280 = 0 then (vernierlaw06_PartsBack.j0 k a1 a2 a3) else (some false)) else (some false)) else (some false)) = some r := by rw [if_pos rfl] at H; exact H
          clear H
          have H := H1
          clear H1
          by_cases c13 : t277 = a0
          · rw [if_pos c13] at H
            have c13b0 : (t277 == a0) = true := beq_iff_eq.mpr c13
            have c13b1 : (t277 != a0) = false := bne_eq_false_iff_eq.mpr c13
            clear c13
            by_cases c14 : t279 = a0
            · rw [if_pos c14] at H
              have c14b0 : (t279 == a0) = true := beq_iff_eq.mpr c14
              have c14b1 : (t279 != a0) = false := bne_eq_false_iff_eq.mpr c14
              clear c14
              by_cases c15 : t280 = 0
              · rw [if_pos c15] at H
                have c15b0 : (t280 == 0) = true := beq_iff_eq.mpr c15
                have c15b1 : (t280 != 0) = false := bne_eq_false_iff_eq.mpr c15
                clear c15
                have H' := Aside0.mk H
                clear H
                go_wp2_with (first | ((with_reducible refine gate_callee (f := 28) rfl ?_); refine goesL_ (some 41) rfl rfl Try.func28 (by kernel_rfl) rfl #[.bool t273, .int .u64 t274, .int .i64 t275] rfl (by (try simp only [List.map_toArray, List.map_cons, List.map_nil]); first | done | rfl | (simp only [List.length_drop, List.length_take]; rfl)) ?_; (with_reducible refine (parts_Exact.calls k t273 t274 t275 t277 true _ A10.out).mono ?_); rintro e w16 ⟨rfl, hb⟩; refine ⟨_, rfl, ?_⟩; have n0_ := Aside0.mk (below_step (by repeat (first | (with_reducible first | exact HB.out | apply below_alloc | apply pw_below_drewN | apply below_drew1) | exact HB.out)) hb); clear HB; have HB := n0_; clear n0_; (try clear hb); (try clear hb2); (try clear hk); (try clear hi)) | ((with_reducible refine gate_callee (f := 22) rfl ?_); refine goesL_ (some 48) rfl rfl Try.func22 (by kernel_rfl) rfl #[.bool t273, .int .u64 0, .int .u64 t274, .int .i64 t275, .bool false, .int .i64 0] rfl (by (try simp only [List.map_toArray, List.map_cons, List.map_nil]); first | done | rfl | (simp only [List.length_drop, List.length_take]; rfl)) ?_; (with_reducible refine (parts_Round.calls k t273 0 t274 t275 false 0 t279 t280 _ A11.out).mono ?_); rintro e w17 ⟨rfl, hb⟩; refine ⟨_, rfl, ?_⟩; have n0_ := Aside0.mk (below_step (by repeat (first | (with_reducible first | exact HB.out | apply below_alloc | apply pw_below_drewN | apply below_drew1) | exact HB.out)) hb); clear HB; have HB := n0_; clear n0_; (try clear hb); (try clear hb2); (try clear hk); (try clear hi)))
                go_meet
                case rel => exact ⟨_, H', ⟨by first | omega | exact Nat.le_refl _⟩, ⟨by repeat (first | (with_reducible first | exact HB.out | apply below_alloc | apply pw_below_drewN | apply below_drew1) | exact HB.out)⟩⟩
              · rw [if_neg c15] at H
                have c15b0 : (t280 == 0) = false := beq_eq_false_iff_ne.mpr c15
                have c15b1 : (t280 != 0) = true := bne_iff_ne.mpr c15
                obtain rfl := Option.some.inj H
                go_wp2_with (first | ((with_reducible refine gate_callee (f := 28) rfl ?_); refine goesL_ (some 41) rfl rfl Try.func28 (by kernel_rfl) rfl #[.bool t273, .int .u64 t274, .int .i64 t275] rfl (by (try simp only [List.map_toArray, List.map_cons, List.map_nil]); first | done | rfl | (simp only [List.length_drop, List.length_take]; rfl)) ?_; (with_reducible refine (parts_Exact.calls k t273 t274 t275 t277 true _ A10.out).mono ?_); rintro e w18 ⟨rfl, hb⟩; refine ⟨_, rfl, ?_⟩; have n0_ := Aside0.mk (below_step (by repeat (first | (with_reducible first | exact HB.out | apply below_alloc | apply pw_below_drewN | apply below_drew1) | exact HB.out)) hb); clear HB; have HB := n0_; clear n0_; (try clear hb); (try clear hb2); (try clear hk); (try clear hi)) | ((with_reducible refine gate_callee (f := 22) rfl ?_); refine goesL_ (some 48) rfl rfl Try.func22 (by kernel_rfl) rfl #[.bool t273, .int .u64 0, .int .u64 t274, .int .i64 t275, .bool false, .int .i64 0] rfl (by (try simp only [List.map_toArray, List.map_cons, List.map_nil]); first | done | rfl | (simp only [List.length_drop, List.length_take]; rfl)) ?_; (with_reducible refine (parts_Round.calls k t273 0 t274 t275 false 0 t279 t280 _ A11.out).mono ?_); rintro e w19 ⟨rfl, hb⟩; refine ⟨_, rfl, ?_⟩; have n0_ := Aside0.mk (below_step (by repeat (first | (with_reducible first | exact HB.out | apply below_alloc | apply pw_below_drewN | apply below_drew1) | exact HB.out)) hb); clear HB; have HB := n0_; clear n0_; (try clear hb); (try clear hb2); (try clear hk); (try clear hi)))
                go_ret
                exact ⟨by first | rfl | (simp [errW_none, errW_some] <;> rfl) | (simp [*, errW_none, errW_some] <;> rfl), by repeat (first | (with_reducible first | exact HB.out | apply below_alloc | apply pw_below_drewN | apply below_drew1) | exact HB.out)⟩
            · rw [if_neg c14] at H
              have c14b0 : (t279 == a0) = false := beq_eq_false_iff_ne.mpr c14
              have c14b1 : (t279 != a0) = true := bne_iff_ne.mpr c14
              obtain rfl := Option.some.inj H
              go_wp2_with (first | ((with_reducible refine gate_callee (f := 28) rfl ?_); refine goesL_ (some 41) rfl rfl Try.func28 (by kernel_rfl) rfl #[.bool t273, .int .u64 t274, .int .i64 t275] rfl (by (try simp only [List.map_toArray, List.map_cons, List.map_nil]); first | done | rfl | (simp only [List.length_drop, List.length_take]; rfl)) ?_; (with_reducible refine (parts_Exact.calls k t273 t274 t275 t277 true _ A10.out).mono ?_); rintro e w20 ⟨rfl, hb⟩; refine ⟨_, rfl, ?_⟩; have n0_ := Aside0.mk (below_step (by repeat (first | (with_reducible first | exact HB.out | apply below_alloc | apply pw_below_drewN | apply below_drew1) | exact HB.out)) hb); clear HB; have HB := n0_; clear n0_; (try clear hb); (try clear hb2); (try clear hk); (try clear hi)) | ((with_reducible refine gate_callee (f := 22) rfl ?_); refine goesL_ (some 48) rfl rfl Try.func22 (by kernel_rfl) rfl #[.bool t273, .int .u64 0, .int .u64 t274, .int .i64 t275, .bool false, .int .i64 0] rfl (by (try simp only [List.map_toArray, List.map_cons, List.map_nil]); first | done | rfl | (simp only [List.length_drop, List.length_take]; rfl)) ?_; (with_reducible refine (parts_Round.calls k t273 0 t274 t275 false 0 t279 t280 _ A11.out).mono ?_); rintro e w21 ⟨rfl, hb⟩; refine ⟨_, rfl, ?_⟩; have n0_ := Aside0.mk (below_step (by repeat (first | (with_reducible first | exact HB.out | apply below_alloc | apply pw_below_drewN | apply below_drew1) | exact HB.out)) hb); clear HB; have HB := n0_; clear n0_; (try clear hb); (try clear hb2); (try clear hk); (try clear hi)))
              go_ret
              exact ⟨by first | rfl | (simp [errW_none, errW_some] <;> rfl) | (simp [*, errW_none, errW_some] <;> rfl), by repeat (first | (with_reducible first | exact HB.out | apply below_alloc | apply pw_below_drewN | apply below_drew1) | exact HB.out)⟩
          · rw [if_neg c13] at H
            have c13b0 : (t277 == a0) = false := beq_eq_false_iff_ne.mpr c13
            have c13b1 : (t277 != a0) = true := bne_iff_ne.mpr c13
            obtain rfl := Option.some.inj H
            go_wp2_with (first | ((with_reducible refine gate_callee (f := 28) rfl ?_); refine goesL_ (some 41) rfl rfl Try.func28 (by kernel_rfl) rfl #[.bool t273, .int .u64 t274, .int .i64 t275] rfl (by (try simp only [List.map_toArray, List.map_cons, List.map_nil]); first | done | rfl | (simp only [List.length_drop, List.length_take]; rfl)) ?_; (with_reducible refine (parts_Exact.calls k t273 t274 t275 t277 true _ A10.out).mono ?_); rintro e w22 ⟨rfl, hb⟩; refine ⟨_, rfl, ?_⟩; have n0_ := Aside0.mk (below_step (by repeat (first | (with_reducible first | exact HB.out | apply below_alloc | apply pw_below_drewN | apply below_drew1) | exact HB.out)) hb); clear HB; have HB := n0_; clear n0_; (try clear hb); (try clear hb2); (try clear hk); (try clear hi)) | ((with_reducible refine gate_callee (f := 22) rfl ?_); refine goesL_ (some 48) rfl rfl Try.func22 (by kernel_rfl) rfl #[.bool t273, .int .u64 0, .int .u64 t274, .int .i64 t275, .bool false, .int .i64 0] rfl (by (try simp only [List.map_toArray, List.map_cons, List.map_nil]); first | done | rfl | (simp only [List.length_drop, List.length_take]; rfl)) ?_; (with_reducible refine (parts_Round.calls k t273 0 t274 t275 false 0 t279 t280 _ A11.out).mono ?_); rintro e w23 ⟨rfl, hb⟩; refine ⟨_, rfl, ?_⟩; have n0_ := Aside0.mk (below_step (by repeat (first | (with_reducible first | exact HB.out | apply below_alloc | apply pw_below_drewN | apply below_drew1) | exact HB.out)) hb); clear HB; have HB := n0_; clear n0_; (try clear hb); (try clear hb2); (try clear hk); (try clear hi)))
            go_ret
            exact ⟨by first | rfl | (simp [errW_none, errW_some] <;> rfl) | (simp [*, errW_none, errW_some] <;> rfl), by repeat (first | (with_reducible first | exact HB.out | apply below_alloc | apply pw_below_drewN | apply below_drew1) | exact HB.out)⟩
        · replace c12 := Bool.eq_false_iff.mpr c12
          subst c12
          have H1 : (some false) = some r := by rw [if_neg (show ¬ (false = true) by decide)] at H; exact H
          clear H
          have H := H1
          clear H1
          obtain rfl := Option.some.inj H
          go_wp2_with (first | ((with_reducible refine gate_callee (f := 28) rfl ?_); refine goesL_ (some 41) rfl rfl Try.func28 (by kernel_rfl) rfl #[.bool t273, .int .u64 t274, .int .i64 t275] rfl (by (try simp only [List.map_toArray, List.map_cons, List.map_nil]); first | done | rfl | (simp only [List.length_drop, List.length_take]; rfl)) ?_; (with_reducible refine (parts_Exact.calls k t273 t274 t275 t277 false _ A10.out).mono ?_); rintro e w24 ⟨rfl, hb⟩; refine ⟨_, rfl, ?_⟩; have n0_ := Aside0.mk (below_step (by repeat (first | (with_reducible first | exact HB.out | apply below_alloc | apply pw_below_drewN | apply below_drew1) | exact HB.out)) hb); clear HB; have HB := n0_; clear n0_; (try clear hb); (try clear hb2); (try clear hk); (try clear hi)) | ((with_reducible refine gate_callee (f := 22) rfl ?_); refine goesL_ (some 48) rfl rfl Try.func22 (by kernel_rfl) rfl #[.bool t273, .int .u64 0, .int .u64 t274, .int .i64 t275, .bool false, .int .i64 0] rfl (by (try simp only [List.map_toArray, List.map_cons, List.map_nil]); first | done | rfl | (simp only [List.length_drop, List.length_take]; rfl)) ?_; (with_reducible refine (parts_Round.calls k t273 0 t274 t275 false 0 t279 t280 _ A11.out).mono ?_); rintro e w25 ⟨rfl, hb⟩; refine ⟨_, rfl, ?_⟩; have n0_ := Aside0.mk (below_step (by repeat (first | (with_reducible first | exact HB.out | apply below_alloc | apply pw_below_drewN | apply below_drew1) | exact HB.out)) hb); clear HB; have HB := n0_; clear n0_; (try clear hb); (try clear hb2); (try clear hk); (try clear hi)))
          go_ret
          exact ⟨by first | rfl | (simp [errW_none, errW_some] <;> rfl) | (simp [*, errW_none, errW_some] <;> rfl), by repeat (first | (with_reducible first | exact HB.out | apply below_alloc | apply pw_below_drewN | apply below_drew1) | exact HB.out)⟩
      · rw [if_neg c9] at H
        have c9b0 : (t276 == 0) = false := beq_eq_false_iff_ne.mpr c9
        have c9b1 : (t276 != 0) = true := bne_iff_ne.mpr c9
        (first | rw [c9b0] | (simp only [i64_w, i32_w]; rw [c9b0]) | skip)
        have H' := Aside0.mk H
        clear H
        go_wp2
        go_meet
        case rel => exact ⟨_, H', ⟨by first | omega | exact Nat.le_refl _⟩, ⟨by repeat (first | (with_reducible first | exact HB.out | apply below_alloc | apply pw_below_drewN | apply below_drew1) | exact HB.out)⟩⟩
    case rest =>
      clear HC8
      try clear c1
      try clear c2
      try clear p2
      try clear c6
      try clear c9
      try clear c9b0
      try clear c9b1
      try clear c12
      try clear c13
      try clear c13b0
      try clear c13b1
      try clear c14
      try clear c14b0
      try clear c14b1
      try clear c15
      try clear c15b0
      try clear c15b1
      try clear c21
      try clear c22
      obtain ⟨kq, HA, HJ7, HB⟩ := hcut
      cases kq with
      | zero => exact absurd HA.out (by simp [vernierlaw06_PartsBack.j0])
      | succ kj7 =>
        have H := HA.out
        clear HA
        simp only [vernierlaw06_PartsBack.j0] at H
        replace H := Option.bind_eq_some_iff.mp H
        obtain ⟨⟨t281, t282⟩, A260, H⟩ := H
        replace H : (if a3 ≥ (-16384) then (vernierlaw06_PartsBack.j1 kj7 a1 a2 a3 t281 t282 (decide (a3 ≤ 16384))) else (vernierlaw06_PartsBack.j1 kj7 a1 a2 a3 t281 t282 false)) = some r := H
        have A26 := Aside0.mk A260
        clear A260
        have HC27 := Aside0.mk H
        clear H
        go_upto_region 10 with (first | ((with_reducible refine gate_callee (f := 28) rfl ?_); refine goesL_ (some 71) rfl rfl Try.func28 (by kernel_rfl) rfl #[.bool a1, .int .u64 a2, .int .i64 a3] rfl (by (try simp only [List.map_toArray, List.map_cons, List.map_nil]); first | done | rfl | (simp only [List.length_drop, List.length_take]; rfl)) ?_; (with_reducible refine (parts_Exact.calls kj7 a1 a2 a3 t281 t282 _ A26.out).mono ?_); rintro e w28 ⟨rfl, hb⟩; refine ⟨_, rfl, ?_⟩; have n0_ := Aside0.mk (below_step (by repeat (first | (with_reducible first | exact HB.out | apply below_alloc | apply pw_below_drewN | apply below_drew1) | exact HB.out)) hb); clear HB; have HB := n0_; clear n0_; (try clear hb); (try clear hb2); (try clear hk); (try clear hi)))
        (try simp only [Act.put, List.setIfInBounds_toArray, List.set_cons_zero, List.set_cons_succ])
        go_cut [19] (fun v19 wc => ∃ (kq : Nat) (x19_26 : Bool), v19 = .bool x19_26 ∧ Aside0 (vernierlaw06_PartsBack.j1 kq a1 a2 a3 t281 t282 x19_26 = some r) ∧ Aside0 (kq ≤ kj7) ∧ Aside0 (Below w.heap.size w wc))
        case first =>
          have H := HC27.out
          clear HC27
          by_cases c29 : a3 ≥ (-16384)
          · rw [if_pos c29] at H
            have c29b0 : decide ((-16384) ≤ a3) = true := decide_eq_true c29
            clear c29
            (first | rw [c29b0] | (simp only [i64_w, i32_w]; rw [c29b0]) | skip)
            have H' := Aside0.mk H
            clear H
            go_wp2
            go_meet
            case rel => exact ⟨_, (decide (a3 ≤ 16384)), (by first | rfl | (simp; done) | (simp [*]; done)), H', ⟨by have := HJ7.out; first | omega | exact Nat.le_refl _⟩, ⟨by repeat (first | (with_reducible first | exact HB.out | apply below_alloc | apply pw_below_drewN | apply below_drew1) | exact HB.out)⟩⟩
          · rw [if_neg c29] at H
            have c29b0 : decide ((-16384) ≤ a3) = false := decide_eq_false c29
            clear c29
            (first | rw [c29b0] | (simp only [i64_w, i32_w]; rw [c29b0]) | skip)
            have H' := Aside0.mk H
            clear H
            go_wp2
            go_meet
            case rel => exact ⟨_, (false), (by first | rfl | (simp; done) | (simp [*]; done)), H', ⟨by have := HJ7.out; first | omega | exact Nat.le_refl _⟩, ⟨by repeat (first | (with_reducible first | exact HB.out | apply below_alloc | apply pw_below_drewN | apply below_drew1) | exact HB.out)⟩⟩
        case rest =>
          clear HC27
          try clear c1
          try clear c2
          try clear p2
          try clear c6
          try clear c9
          try clear c9b0
          try clear c9b1
          try clear c12
          try clear c13
          try clear c13b0
          try clear c13b1
          try clear c14
          try clear c14b0
          try clear c14b1
          try clear c15
          try clear c15b0
          try clear c15b1
          try clear c21
          try clear c22
          try clear c28
          try clear c29
          try clear c29b0
          try clear p2
          obtain ⟨kq, x19_26, rfl, HA, HJ26, HB⟩ := hcut
          cases kq with
          | zero => exact absurd HA.out (by simp [vernierlaw06_PartsBack.j1])
          | succ kj26 =>
            have H := HA.out
            clear HA
            simp only [vernierlaw06_PartsBack.j1] at H
            have HC30 := Aside0.mk H
            clear H
            go_upto_region 11 with (fail)
            go_cut [84] (fun v84 wc => ∃ (kq : Nat) (x84_29 : Bool), v84 = .bool x84_29 ∧ Aside0 (vernierlaw06_PartsBack.j2 kq a1 a2 a3 t281 t282 x19_26 x84_29 = some r) ∧ Aside0 (kq ≤ kj26) ∧ Aside0 (Below w.heap.size w wc))
            case first =>
              have H := HC30.out
              clear HC30
              by_cases c31 : x19_26 = true
              · subst c31
                have H1 : (vernierlaw06_PartsBack.j2 kj26 a1 a2 a3 t281 t282 true (a2 != 0)) = some r := by rw [if_pos rfl] at H; exact H
                clear H
                have H := H1
                clear H1
                have H' := Aside0.mk H
                clear H
                go_wp2
                go_meet
                case rel => exact ⟨_, ((a2 != 0)), (by first | rfl | (simp; done) | (simp [*]; done)), H', ⟨by have := HJ7.out; have := HJ26.out; first | omega | exact Nat.le_refl _⟩, ⟨by repeat (first | (with_reducible first | exact HB.out | apply below_alloc | apply pw_below_drewN | apply below_drew1) | exact HB.out)⟩⟩
              · replace c31 := Bool.eq_false_iff.mpr c31
                subst c31
                have H1 : (vernierlaw06_PartsBack.j2 kj26 a1 a2 a3 t281 t282 false false) = some r := by rw [if_neg (show ¬ (false = true) by decide)] at H; exact H
                clear H
                have H := H1
                clear H1
                have H' := Aside0.mk H
                clear H
                go_wp2
                go_meet
                case rel => exact ⟨_, (false), (by first | rfl | (simp; done) | (simp [*]; done)), H', ⟨by have := HJ7.out; have := HJ26.out; first | omega | exact Nat.le_refl _⟩, ⟨by repeat (first | (with_reducible first | exact HB.out | apply below_alloc | apply pw_below_drewN | apply below_drew1) | exact HB.out)⟩⟩
            case rest =>
              clear HC30
              try clear c1
              try clear c2
              try clear p2
              try clear c3
              try clear c6
              try clear c9
              try clear c9b0
              try clear c9b1
              try clear c12
              try clear c13
              try clear c13b0
              try clear c13b1
              try clear c14
              try clear c14b0
              try clear c14b1
              try clear c15
              try clear c15b0
              try clear c15b1
              try clear c21
              try clear c22
              try clear c28
              try clear c29
              try clear c29b0
              try clear c31
              try clear p2
              obtain ⟨kq, x84_29, rfl, HA, HJ29, HB⟩ := hcut
              cases kq with
              | zero => exact absurd HA.out (by simp [vernierlaw06_PartsBack.j2])
              | succ kj29 =>
                have H := HA.out
                clear HA
                simp only [vernierlaw06_PartsBack.j2] at H
                have HC32 := Aside0.mk H
                clear H
                go_upto_if 84 with (fail)
                go_cut [19] (fun v19 wc => ∃ (kq : Nat) (x19_31 : Bool), v19 = .bool x19_31 ∧ Aside0 (vernierlaw06_PartsBack.j3 kq a2 a3 t281 t282 x19_31 = some r) ∧ Aside0 (kq ≤ kj29) ∧ Aside0 (Below w.heap.size w wc))
                case first =>
                  have H := HC32.out
                  clear HC32
                  by_cases c33 : x84_29 = true
                  · subst c33
                    have H1 : ((vernierref01_Word.f kj29 a2).bind fun t283 => ((vernierref06_Round.f kj29 a1 t283 (([1] : List Int)) a3 0).bind fun bt289 => (vernierlaw06_PartsBack.j3 kj29 a2 a3 t281 t282 (bt289.2 == 0)))) = some r := by rw [if_pos rfl] at H; exact H
                    clear H
                    have H := H1
                    clear H1
                    replace H := Option.bind_eq_some_iff.mp H
                    obtain ⟨t283, A340, H⟩ := H
                    replace H : ((vernierref06_Round.f kj29 a1 t283 (([1] : List Int)) a3 0).bind fun bt289 => (vernierlaw06_PartsBack.j3 kj29 a2 a3 t281 t282 (bt289.2 == 0))) = some r := H
                    have A34 := Aside0.mk A340
                    clear A340
                    obtain ⟨y286, hy286⟩ : ∃ y_ : List Int, y_ = (([1] : List Int)) := ⟨_, rfl⟩
                    replace H : ((vernierref06_Round.f kj29 a1 t283 y286 a3 0).bind fun bt289 => (vernierlaw06_PartsBack.j3 kj29 a2 a3 t281 t282 (bt289.2 == 0))) = some r := by first | (rw [hy286]; with_reducible exact H) | (have H2_ := (Option.bind_some _ _).symm.trans H; rw [hy286]; with_reducible exact H2_) | (have H2_ := (Option.bind_some _ _).symm.trans H; with_reducible exact H2_) | with_reducible exact H | (rw [hy286]; exact H) | exact H
                    have Ny286 := Aside0.mk hy286
                    clear hy286
                    replace H := Option.bind_eq_some_iff.mp H
                    obtain ⟨⟨t289, t290⟩, A350, H⟩ := H
                    replace H : (vernierlaw06_PartsBack.j3 kj29 a2 a3 t281 t282 (t290 == 0)) = some r := H
                    have A35 := Aside0.mk A350
                    clear A350
                    have H' := Aside0.mk H
                    clear H
                    go_wp2_with (first | ((with_reducible refine gate_callee (f := 29) rfl ?_); refine goesL_ (some 88) rfl rfl Try.func29 (by kernel_rfl) rfl #[.int .u64 a2] rfl (by (try simp only [List.map_toArray, List.map_cons, List.map_nil]); first | done | rfl | (simp only [List.length_drop, List.length_take]; rfl)) ?_; (with_reducible refine (vernierref01_Word.calls kj29 a2 t283 _ A34.out).mono ?_); rintro e w36 ⟨v284, rfl, ho0, hb⟩; refine ⟨_, rfl, ?_⟩; have n0_ := Aside0.mk (Kd.R_lower ho0 (below_size (by repeat (first | (with_reducible first | exact HB.out | apply below_alloc | apply pw_below_drewN | apply below_drew1) | exact HB.out)))); have n1_ := Aside0.mk (below_step (by repeat (first | (with_reducible first | exact HB.out | apply below_alloc | apply pw_below_drewN | apply below_drew1) | exact HB.out)) hb); clear HB; have HO285 := n0_; have HB := n1_; clear n0_ n1_; (try clear hb); (try clear hb2); (try clear hk); (try clear hi); (try clear ho0)) | ((with_reducible refine gate_dst (N := 89) rfl ?_); refine Kd.R_lit (Kd.int .i64) _ 3 ?hg (N := 89) ?hd (xs := ([1] : List Int)) (inner := [.int .i64 1]) (ok := fun _ => True) (okp := fun _ => True) ?hr ?hp (fun _ hk => hk) trivial (Below.refl _ _) (Nat.le_refl _) (by simp) ?_; (case hd => rfl); (case hg => rfl); (case hr => first | (go_simp; done) | (go_simp; rfl)); (case hp => exact (Reps.one (show Kd.M (Kd.int .i64) _ _ _ 1 [.int .i64 1] from rfl) (Reps.none _ _))); intro v287 w37 ho38 hb hg_ hnew_; clear hg_ hnew_; (first | rw [← Ny286.out] at ho38 | (simp only [Int.reduceToNat] at ho38; rw [← Ny286.out] at ho38)); have n0_ := Aside0.mk (Kd.R_elder' (by (with_reducible repeat (first | apply Kd.R_alloc | apply Kd.R_drewN | apply Kd.R_drew)); exact HO285.out) (Kd.R_base ho38) hb); have n1_ := Aside0.mk (Kd.R_lower (Kd.R_new' ho38 (Kd.R_lt (by (with_reducible repeat (first | apply Kd.R_alloc | apply Kd.R_drewN | apply Kd.R_drew)); exact HO285.out))) (below_size (by repeat (first | (with_reducible first | exact HB.out | apply below_alloc | apply pw_below_drewN | apply below_drew1) | exact HB.out)))); have n2_ := Aside0.mk (below_step (by repeat (first | (with_reducible first | exact HB.out | apply below_alloc | apply pw_below_drewN | apply below_drew1) | exact HB.out)) hb); clear HO285; clear HB; have HO285 := n0_; have HO288 := n1_; have HB := n2_; clear n0_ n1_ n2_; clear hb ho38; obtain ⟨Ao39, co39, eo39⟩ := Kd.R_slice HO285.out; subst eo39; obtain ⟨Ao40, co40, eo40⟩ := Kd.R_slice HO288.out; subst eo40) | ((with_reducible refine gate_callee (f := 27) rfl ?_); refine goesL_ (some 91) rfl rfl Try.func27 (by kernel_rfl) rfl #[.bool a1, .slice Ao39 t283.length co39, .slice Ao40 y286.length co40, .int .i64 a3, .int .i64 0] rfl (by (try simp only [List.map_toArray, List.map_cons, List.map_nil]); first | done | rfl | (simp only [List.length_drop, List.length_take]; rfl)) ?_; (with_reducible refine (vernierref06_Round.calls kj29 a1 (fun k_ => some k_ = (.slice Ao39 t283.length co39 : Value).ownBlock) (.slice Ao39 t283.length co39) t283 (fun k_ => some k_ = (.slice Ao40 y286.length co40 : Value).ownBlock) (.slice Ao40 y286.length co40) y286 a3 0 t289 t290 w _ ?side1 ?side2 ?side3 ?side4 ?side5 A35.out).mono ?_); (case side1 => repeat (first | (with_reducible first | exact HB.out | apply below_alloc | apply pw_below_drewN | apply below_drew1) | exact HB.out)); (case side2 => exact Kd.R_tight rfl HO285.out); (case side3 => exact fun k_ e_ => (HO285.out.1 k_ e_.symm).2); (case side4 => exact Kd.R_tight rfl HO288.out); (case side5 => exact fun k_ e_ => (HO288.out.1 k_ e_.symm).2); rintro e w41 ⟨rfl, hb, hkp⟩; refine ⟨_, rfl, ?_⟩; have n0_ := Aside0.mk (hb); clear HB; clear HO285; clear HO288; have HB := n0_; clear n0_; (try clear hb); (try clear hkp)))
                    go_meet
                    case rel => exact ⟨_, ((t290 == 0)), (by first | rfl | (simp; done) | (simp [*]; done)), H', ⟨by have := HJ7.out; have := HJ26.out; have := HJ29.out; first | omega | exact Nat.le_refl _⟩, ⟨by repeat (first | (with_reducible first | exact HB.out | apply below_alloc | apply pw_below_drewN | apply below_drew1) | exact HB.out)⟩⟩
                  · replace c33 := Bool.eq_false_iff.mpr c33
                    subst c33
                    have H1 : (vernierlaw06_PartsBack.j3 kj29 a2 a3 t281 t282 x19_26) = some r := by rw [if_neg (show ¬ (false = true) by decide)] at H; exact H
                    clear H
                    have H := H1
                    clear H1
                    have H' := Aside0.mk H
                    clear H
                    go_wp2
                    go_meet
                    case rel => exact ⟨_, (x19_26), (by first | rfl | (simp; done) | (simp [*]; done)), H', ⟨by have := HJ7.out; have := HJ26.out; have := HJ29.out; first | omega | exact Nat.le_refl _⟩, ⟨by repeat (first | (with_reducible first | exact HB.out | apply below_alloc | apply pw_below_drewN | apply below_drew1) | exact HB.out)⟩⟩
                case rest =>
                  clear HC32
                  try clear c1
                  try clear c2
                  try clear p2
                  try clear c3
                  try clear c6
                  try clear c9
                  try clear c9b0
                  try clear c9b1
                  try clear c12
                  try clear c13
                  try clear c13b0
                  try clear c13b1
                  try clear c14
                  try clear c14b0
                  try clear c14b1
                  try clear c15
                  try clear c15b0
                  try clear c15b1
                  try clear c21
                  try clear c22
                  try clear c27
                  try clear c28
                  try clear c29
                  try clear c29b0
                  try clear c31
                  try clear c33
                  try clear p2
                  obtain ⟨kq, x19_31, rfl, HA, HJ31, HB⟩ := hcut
                  cases kq with
                  | zero => exact absurd HA.out (by simp [vernierlaw06_PartsBack.j3])
                  | succ kj31 =>
                    have H := HA.out
                    clear HA
                    simp only [vernierlaw06_PartsBack.j3] at H
                    by_cases c42 : (t282 != x19_31) = true
                    · rw [if_pos c42] at H
                      have c42b0 : (t282 != x19_31) = true := c42
                      (try (have c42b1 : decide (t282 = x19_31) = false := by simpa using c42))
                      (try (have c42b2 : (t282 == x19_31) = false := by simpa using c42))
                      (try (have c42b3 : ¬ (t282 = x19_31) := by simpa using c42))
                      clear c42
                      obtain rfl := Option.some.inj H
                      go_wp2
                      go_ret
                      exact ⟨by first | rfl | (simp [errW_none, errW_some] <;> rfl) | (simp [*, errW_none, errW_some] <;> rfl), by repeat (first | (with_reducible first | exact HB.out | apply below_alloc | apply pw_below_drewN | apply below_drew1) | exact HB.out)⟩
                    · rw [if_neg c42] at H
                      have c42b0 : (t282 != x19_31) = false := by simpa using c42
                      (try (have c42b1 : decide (t282 = x19_31) = true := by simpa using c42))
                      (try (have c42b2 : (t282 == x19_31) = true := by simpa using c42))
                      clear c42
                      by_cases c43 : t282 = true
                      · subst c43
                        have H1 : ((vernierref06_Split.f t281).bind fun bt291 => ((vernierref01_Word.f kj31 bt291.2.1).bind fun t294 => ((vernierref01_Shl.f kj31 t294 (mn (wrap64 (bt291.2.2 - (mn bt291.2.2 a3))) 40000)).bind fun t297 => ((vernierref01_Word.f kj31 a2).bind fun t300 => ((vernierref01_Shl.f kj31 t300 (mn (wrap64 (a3 - (mn bt291.2.2 a3))) 40000)).bind fun t303 => ((vernierref01_Cmp.f kj31 t297 t303).bind fun t306 => (some (t306 == 0)))))))) = some r := by rw [if_pos rfl] at H; exact H
                        clear H
                        have H := H1
                        clear H1
                        replace H := Option.bind_eq_some_iff.mp H
                        obtain ⟨⟨t291, t292, t293⟩, A440, H⟩ := H
                        replace H : ((vernierref01_Word.f kj31 t292).bind fun t294 => ((vernierref01_Shl.f kj31 t294 (mn (wrap64 (t293 - (mn t293 a3))) 40000)).bind fun t297 => ((vernierref01_Word.f kj31 a2).bind fun t300 => ((vernierref01_Shl.f kj31 t300 (mn (wrap64 (a3 - (mn t293 a3))) 40000)).bind fun t303 => ((vernierref01_Cmp.f kj31 t297 t303).bind fun t306 => (some (t306 == 0))))))) = some r := H
                        have A44 := Aside0.mk A440
                        clear A440
                        obtain ⟨ji45, hji45⟩ : ∃ j_ : Int, (mn t293 a3) = j_ := ⟨_, rfl⟩
                        replace H : ((vernierref01_Word.f kj31 t292).bind fun t294 => ((vernierref01_Shl.f kj31 t294 (mn (wrap64 (t293 - (ji45))) 40000)).bind fun t297 => ((vernierref01_Word.f kj31 a2).bind fun t300 => ((vernierref01_Shl.f kj31 t300 (mn (wrap64 (a3 - (ji45))) 40000)).bind fun t303 => ((vernierref01_Cmp.f kj31 t297 t303).bind fun t306 => (some (t306 == 0))))))) = some r := by first | (rw [hji45] at H; exact H) | (simp only [hji45] at H ⊢; exact H)
                        (try rw [hji45] at A44)
                        have hji45_ : (if a3 < t293 then a3 else t293) = ji45 := hji45
                        replace H := Option.bind_eq_some_iff.mp H
                        obtain ⟨t294, A460, H⟩ := H
                        replace H : ((vernierref01_Shl.f kj31 t294 (mn (wrap64 (t293 - (ji45))) 40000)).bind fun t297 => ((vernierref01_Word.f kj31 a2).bind fun t300 => ((vernierref01_Shl.f kj31 t300 (mn (wrap64 (a3 - (ji45))) 40000)).bind fun t303 => ((vernierref01_Cmp.f kj31 t297 t303).bind fun t306 => (some (t306 == 0)))))) = some r := H
                        have A46 := Aside0.mk A460
                        clear A460
                        obtain ⟨ji47, hji47⟩ : ∃ j_ : Int, (mn (wrap64 (t293 - (ji45))) 40000) = j_ := ⟨_, rfl⟩
                        replace H : ((vernierref01_Shl.f kj31 t294 (ji47)).bind fun t297 => ((vernierref01_Word.f kj31 a2).bind fun t300 => ((vernierref01_Shl.f kj31 t300 (mn (wrap64 (a3 - (ji45))) 40000)).bind fun t303 => ((vernierref01_Cmp.f kj31 t297 t303).bind fun t306 => (some (t306 == 0)))))) = some r := by first | (rw [hji47] at H; exact H) | (simp only [hji47] at H ⊢; exact H)
                        (try rw [hji47] at A44)
                        (try rw [hji47] at A46)
                        have hji47_ : (if 40000 < (wrap64 (t293 - (ji45))) then 40000 else (wrap64 (t293 - (ji45)))) = ji47 := hji47
                        replace H := Option.bind_eq_some_iff.mp H
                        obtain ⟨t297, A480, H⟩ := H
                        replace H : ((vernierref01_Word.f kj31 a2).bind fun t300 => ((vernierref01_Shl.f kj31 t300 (mn (wrap64 (a3 - (ji45))) 40000)).bind fun t303 => ((vernierref01_Cmp.f kj31 t297 t303).bind fun t306 => (some (t306 == 0))))) = some r := H
                        have A48 := Aside0.mk A480
                        clear A480
                        replace H := Option.bind_eq_some_iff.mp H
                        obtain ⟨t300, A490, H⟩ := H
                        replace H : ((vernierref01_Shl.f kj31 t300 (mn (wrap64 (a3 - (ji45))) 40000)).bind fun t303 => ((vernierref01_Cmp.f kj31 t297 t303).bind fun t306 => (some (t306 == 0)))) = some r := H
                        have A49 := Aside0.mk A490
                        clear A490
                        obtain ⟨ji50, hji50⟩ : ∃ j_ : Int, (mn (wrap64 (a3 - (ji45))) 40000) = j_ := ⟨_, rfl⟩
                        replace H : ((vernierref01_Shl.f kj31 t300 (ji50)).bind fun t303 => ((vernierref01_Cmp.f kj31 t297 t303).bind fun t306 => (some (t306 == 0)))) = some r := by first | (rw [hji50] at H; exact H) | (simp only [hji50] at H ⊢; exact H)
                        (try rw [hji50] at A44)
                        (try rw [hji50] at A46)
                        (try rw [hji50] at A48)
                        (try rw [hji50] at A49)
                        have hji50_ : (if 40000 < (wrap64 (a3 - (ji45))) then 40000 else (wrap64 (a3 - (ji45)))) = ji50 := hji50
                        replace H := Option.bind_eq_some_iff.mp H
                        obtain ⟨t303, A510, H⟩ := H
                        replace H : ((vernierref01_Cmp.f kj31 t297 t303).bind fun t306 => (some (t306 == 0))) = some r := H
                        have A51 := Aside0.mk A510
                        clear A510
                        replace H := Option.bind_eq_some_iff.mp H
                        obtain ⟨t306, A520, H⟩ := H
                        replace H : (some (t306 == 0)) = some r := H
                        have A52 := Aside0.mk A520
                        clear A520
                        obtain rfl := Option.some.inj H
                        go_wp2_with (first | ((with_reducible refine gate_callee (f := 15) rfl ?_); refine goesL_ (some 105) rfl rfl Try.func15 (by kernel_rfl) rfl #[.int .u64 t281] rfl (by (try simp only [List.map_toArray, List.map_cons, List.map_nil]); first | done | rfl | (simp only [List.length_drop, List.length_take]; rfl)) ?_; (with_reducible refine (vernierref06_Split.calls t281 t291 t292 t293 _ A44.out).mono ?_); rintro e w' ⟨rfl, ⟨nd, rfl⟩⟩; refine ⟨_, rfl, ?_⟩) | ((with_reducible refine gate_callee (f := 29) rfl ?_); refine goesL_ (some 113) rfl rfl Try.func29 (by kernel_rfl) rfl #[.int .u64 t292] rfl (by (try simp only [List.map_toArray, List.map_cons, List.map_nil]); first | done | rfl | (simp only [List.length_drop, List.length_take]; rfl)) ?_; (with_reducible refine (vernierref01_Word.calls kj31 t292 t294 _ A46.out).mono ?_); rintro e w53 ⟨v295, rfl, ho0, hb⟩; refine ⟨_, rfl, ?_⟩; have n0_ := Aside0.mk (Kd.R_lower ho0 (below_size (by repeat (first | (with_reducible first | exact HB.out | apply below_alloc | apply pw_below_drewN | apply below_drew1) | exact HB.out)))); have n1_ := Aside0.mk (below_step (by repeat (first | (with_reducible first | exact HB.out | apply below_alloc | apply pw_below_drewN | apply below_drew1) | exact HB.out)) hb); clear HB; have HO296 := n0_; have HB := n1_; clear n0_ n1_; (try clear hb); (try clear hb2); (try clear hk); (try clear hi); (try clear ho0); obtain ⟨Ao54, co54, eo54⟩ := Kd.R_slice HO296.out; subst eo54) | ((with_reducible refine gate_callee (f := 26) rfl ?_); refine goesL_ (some 118) rfl rfl Try.func26 (by kernel_rfl) rfl #[.slice Ao54 t294.length co54, .int .i64 ji47] rfl (by (try simp only [List.map_toArray, List.map_cons, List.map_nil]); first | done | (simp only [hji47]; rfl) | rfl | (simp only [List.length_drop, List.length_take]; rfl)) ?_; (with_reducible refine (vernierref01_Shl.calls kj31 _ _ t294 ji47 t297 _ ?side1 ?side2 A48.out).mono ?_); (case side1 => repeat (first | exact (Kd.R_reads' HO296.out).2.2 | (with_reducible refine Kd.C_alloc ?_ _) | (with_reducible refine Kd.C_drewN ?_ _) | (with_reducible refine Kd.C_drew ?_))); (case side2 => exact (Kd.R_reads' HO296.out).2.1); rintro e w55 ⟨v298, rfl, ho0, hb⟩; refine ⟨_, rfl, ?_⟩; have n0_ := Aside0.mk (Kd.R_elder' (by (with_reducible repeat (first | apply Kd.R_alloc | apply Kd.R_drewN | apply Kd.R_drew)); exact HO296.out) (Kd.R_base ho0) hb); have n1_ := Aside0.mk (Kd.R_lower (Kd.R_new' ho0 (Kd.R_lt (by (with_reducible repeat (first | apply Kd.R_alloc | apply Kd.R_drewN | apply Kd.R_drew)); exact HO296.out))) (below_size (by repeat (first | (with_reducible first | exact HB.out | apply below_alloc | apply pw_below_drewN | apply below_drew1) | exact HB.out)))); have n2_ := Aside0.mk (below_step (by repeat (first | (with_reducible first | exact HB.out | apply below_alloc | apply pw_below_drewN | apply below_drew1) | exact HB.out)) hb); clear HO296; clear HB; have HO296 := n0_; have HO299 := n1_; have HB := n2_; clear n0_ n1_ n2_; (try clear hb); (try clear hb2); (try clear hk); (try clear hi); (try clear ho0)) | ((with_reducible refine gate_callee (f := 29) rfl ?_); refine goesL_ (some 120) rfl rfl Try.func29 (by kernel_rfl) rfl #[.int .u64 a2] rfl (by (try simp only [List.map_toArray, List.map_cons, List.map_nil]); first | done | rfl | (simp only [List.length_drop, List.length_take]; rfl)) ?_; (with_reducible refine (vernierref01_Word.calls kj31 a2 t300 _ A49.out).mono ?_); rintro e w56 ⟨v301, rfl, ho0, hb⟩; refine ⟨_, rfl, ?_⟩; have n0_ := Aside0.mk (Kd.R_elder' (by (with_reducible repeat (first | apply Kd.R_alloc | apply Kd.R_drewN | apply Kd.R_drew)); exact HO296.out) (Kd.R_base ho0) hb); have n1_ := Aside0.mk (Kd.R_elder' (by (with_reducible repeat (first | apply Kd.R_alloc | apply Kd.R_drewN | apply Kd.R_drew)); exact HO299.out) (Kd.R_base ho0) hb); have n2_ := Aside0.mk (Kd.R_lower (Kd.R_new' (Kd.R_new' ho0 (Kd.R_lt (by (with_reducible repeat (first | apply Kd.R_alloc | apply Kd.R_drewN | apply Kd.R_drew)); exact HO296.out))) (Kd.R_lt (by (with_reducible repeat (first | apply Kd.R_alloc | apply Kd.R_drewN | apply Kd.R_drew)); exact HO299.out))) (below_size (by repeat (first | (with_reducible first | exact HB.out | apply below_alloc | apply pw_below_drewN | apply below_drew1) | exact HB.out)))); have n3_ := Aside0.mk (below_step (by repeat (first | (with_reducible first | exact HB.out | apply below_alloc | apply pw_below_drewN | apply below_drew1) | exact HB.out)) hb); clear HO296; clear HO299; clear HB; have HO296 := n0_; have HO299 := n1_; have HO302 := n2_; have HB := n3_; clear n0_ n1_ n2_ n3_; (try clear hb); (try clear hb2); (try clear hk); (try clear hi); (try clear ho0); obtain ⟨Ao57, co57, eo57⟩ := Kd.R_slice HO302.out; subst eo57) | ((with_reducible refine gate_callee (f := 26) rfl ?_); refine goesL_ (some 125) rfl rfl Try.func26 (by kernel_rfl) rfl #[.slice Ao57 t300.length co57, .int .i64 ji50] rfl (by (try simp only [List.map_toArray, List.map_cons, List.map_nil]); first | done | (simp only [hji50]; rfl) | rfl | (simp only [List.length_drop, List.length_take]; rfl)) ?_; (with_reducible refine (vernierref01_Shl.calls kj31 _ _ t300 ji50 t303 _ ?side1 ?side2 A51.out).mono ?_); (case side1 => repeat (first | exact (Kd.R_reads' HO302.out).2.2 | (with_reducible refine Kd.C_alloc ?_ _) | (with_reducible refine Kd.C_drewN ?_ _) | (with_reducible refine Kd.C_drew ?_))); (case side2 => exact (Kd.R_reads' HO302.out).2.1); rintro e w58 ⟨v304, rfl, ho0, hb⟩; refine ⟨_, rfl, ?_⟩; have n0_ := Aside0.mk (Kd.R_elder' (by (with_reducible repeat (first | apply Kd.R_alloc | apply Kd.R_drewN | apply Kd.R_drew)); exact HO296.out) (Kd.R_base ho0) hb); have n1_ := Aside0.mk (Kd.R_elder' (by (with_reducible repeat (first | apply Kd.R_alloc | apply Kd.R_drewN | apply Kd.R_drew)); exact HO299.out) (Kd.R_base ho0) hb); have n2_ := Aside0.mk (Kd.R_elder' (by (with_reducible repeat (first | apply Kd.R_alloc | apply Kd.R_drewN | apply Kd.R_drew)); exact HO302.out) (Kd.R_base ho0) hb); have n3_ := Aside0.mk (Kd.R_lower (Kd.R_new' (Kd.R_new' (Kd.R_new' ho0 (Kd.R_lt (by (with_reducible repeat (first | apply Kd.R_alloc | apply Kd.R_drewN | apply Kd.R_drew)); exact HO296.out))) (Kd.R_lt (by (with_reducible repeat (first | apply Kd.R_alloc | apply Kd.R_drewN | apply Kd.R_drew)); exact HO299.out))) (Kd.R_lt (by (with_reducible repeat (first | apply Kd.R_alloc | apply Kd.R_drewN | apply Kd.R_drew)); exact HO302.out))) (below_size (by repeat (first | (with_reducible first | exact HB.out | apply below_alloc | apply pw_below_drewN | apply below_drew1) | exact HB.out)))); have n4_ := Aside0.mk (below_step (by repeat (first | (with_reducible first | exact HB.out | apply below_alloc | apply pw_below_drewN | apply below_drew1) | exact HB.out)) hb); clear HO296; clear HO299; clear HO302; clear HB; have HO296 := n0_; have HO299 := n1_; have HO302 := n2_; have HO305 := n3_; have HB := n4_; clear n0_ n1_ n2_ n3_ n4_; (try clear hb); (try clear hb2); (try clear hk); (try clear hi); (try clear ho0); obtain ⟨Ao59, co59, eo59⟩ := Kd.R_slice HO299.out; subst eo59; obtain ⟨Ao60, co60, eo60⟩ := Kd.R_slice HO305.out; subst eo60) | ((with_reducible refine gate_callee (f := 30) rfl ?_); refine goesL_ (some 126) rfl rfl Try.func30 (by kernel_rfl) rfl #[.slice Ao59 t297.length co59, .slice Ao60 t303.length co60] rfl (by (try simp only [List.map_toArray, List.map_cons, List.map_nil]); first | done | rfl | (simp only [List.length_drop, List.length_take]; rfl)) ?_; (with_reducible refine (vernierref01_Cmp.calls kj31 _ _ t297 _ _ t303 t306 _ ?side1 ?side2 ?side3 ?side4 A52.out).mono ?_); (case side1 => repeat (first | exact (Kd.R_reads' HO299.out).2.2 | (with_reducible refine Kd.C_alloc ?_ _) | (with_reducible refine Kd.C_drewN ?_ _) | (with_reducible refine Kd.C_drew ?_))); (case side2 => exact (Kd.R_reads' HO299.out).2.1); (case side3 => repeat (first | exact (Kd.R_reads' HO305.out).2.2 | (with_reducible refine Kd.C_alloc ?_ _) | (with_reducible refine Kd.C_drewN ?_ _) | (with_reducible refine Kd.C_drew ?_))); (case side4 => exact (Kd.R_reads' HO305.out).2.1); rintro e w' ⟨rfl, ⟨nd, rfl⟩⟩; refine ⟨_, rfl, ?_⟩))
                        go_ret
                        exact ⟨by first | rfl | (simp [errW_none, errW_some] <;> rfl) | (simp only [← hji45, ← hji47, ← hji50]; first | rfl | (simp [errW_none, errW_some] <;> rfl)) | (simp [*, errW_none, errW_some] <;> rfl), by repeat (first | (with_reducible first | exact HB.out | apply below_alloc | apply pw_below_drewN | apply below_drew1) | exact HB.out)⟩
                      · replace c43 := Bool.eq_false_iff.mpr c43
                        subst c43
                        have H1 : (some (t281 == 0)) = some r := by rw [if_neg (show ¬ (false = true) by decide)] at H; exact H
                        clear H
                        have H := H1
                        clear H1
                        obtain rfl := Option.some.inj H
                        go_wp2
                        go_ret
                        exact ⟨by first | rfl | (simp [errW_none, errW_some] <;> rfl) | (simp [*, errW_none, errW_some] <;> rfl), by repeat (first | (with_reducible first | exact HB.out | apply below_alloc | apply pw_below_drewN | apply below_drew1) | exact HB.out)⟩
  · replace c6 := Bool.eq_false_iff.mpr c6
    subst c6
    have H1 : (some false) = some r := by rw [if_neg (show ¬ (false = true) by decide)] at H; exact H
    clear H
    have H := H1
    clear H1
    obtain rfl := Option.some.inj H
    go_enter Try.func6, Try.ntmps6
    go_wp2_with (first | ((with_reducible refine gate_callee (f := 21) rfl ?_); refine goesL_ (some 26) rfl rfl Try.func21 (by kernel_rfl) rfl #[] rfl (by (try simp only [List.map_toArray, List.map_cons, List.map_nil]); first | done | rfl | (simp only [List.length_drop, List.length_take]; rfl)) ?_; (with_reducible refine (vernierlaw06_alive.calls  false _ A5.out).mono ?_); rintro e w' ⟨rfl, ⟨nd, rfl⟩⟩; refine ⟨_, rfl, ?_⟩))
    go_ret
    exact ⟨by first | rfl | (simp [errW_none, errW_some] <;> rfl) | (simp [*, errW_none, errW_some] <;> rfl), by repeat (first | (with_reducible first | exact HB.out | apply below_alloc | apply pw_below_drewN | apply below_drew1) | exact HB.out)⟩

/-- THE ONE PURE STATEMENT of vernierlaw06_PartsBack: yours. -/
def vernierlaw06_PartsBack.Pure : Prop := ∀ (a0 : Int) (a1 : Bool) (a2 : Int) (a3 : Int), (Lit.int .u64 a0).wf = true → (Lit.int .u64 a2).wf = true → (Lit.int .i64 a3).wf = true → ∃ k, vernierlaw06_PartsBack.f k a0 a1 a2 a3 = some true
theorem vernierlaw06_PartsBack.walk (P : vernierlaw06_PartsBack.Pure) (a0 : Int) (a1 : Bool) (a2 : Int) (a3 : Int) (w : World) (w0 : (Lit.int .u64 a0).wf = true) (w2 : (Lit.int .u64 a2).wf = true) (w3 : (Lit.int .i64 a3).wf = true) :
    Calls Try.prog 6 #[.int .u64 a0, .bool a1, .int .u64 a2, .int .i64 a3] w fun e w' => e = .returned (.bool true) ∧ Below w.heap.size w w' := by
  obtain ⟨k, h⟩ := P a0 a1 a2 a3 w0 w2 w3
  refine (vernierlaw06_PartsBack.calls k a0 a1 a2 a3 true w h).mono ?_
  rintro e w' ⟨rfl, hd⟩
  exact ⟨rfl, hd⟩

end Go.Proofs.Ytklkebbdjppnkaa.PPartsBack
