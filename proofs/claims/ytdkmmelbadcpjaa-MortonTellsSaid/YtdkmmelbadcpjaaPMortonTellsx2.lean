-- PRINTED by print.py (a twelfth state) out of the translation. Not trusted: Lean checks it.
import Derived.Test.YtdkmmelbadcpjaaPMortonTellsx0
import Derived.Test.YtdkmmelbadcpjaaPMortonTellsx1
namespace Go.Proofs.Ytdkmmelbadcpjaa.PMortonTells
open Go.RowKit Go.Proofs.YtdkmmelbadcpjaaW.PrintWords Go.Proofs.YtdkmmelbadcpjaaW.PrintLast Go.Proofs.YtdkmmelbadcpjaaW.PrintMore
attribute [local go_sem] max2_int min2_int max_two min_two max_three min_three max_four min_four   -- for this text's walks alone
set_option linter.unusedVariables false
set_option linter.unusedSimpArgs false

/-! ### morton_gather: function 44 -/
def morton_gather.l0 : Nat → Int → Int → Int → Option (Int)
  | 0, _, _, _ => none
  | k + 1, x0, x3, x5 => if x5 < 16 then (if 0 ≤ (wrap64 (2 * x5)) then (if 0 ≤ x5 then (morton_gather.l0 k x0 (Go.bits .or .i64 x3 (shl .i64 (Go.bits .and .i64 (shr .i64 x0 (wrap64 (2 * x5))) 1) x5)) (wrap64 (x5 + 1))) else (none)) else (none)) else (some x3)
def morton_gather.f (k : Nat) (a0 : Int) : Option (Int) := morton_gather.l0 k a0 0 0
theorem morton_gather.mono_l : ∀ k, (∀ y0 y1 y2, LeO (morton_gather.l0 k y0 y1 y2) (morton_gather.l0 (k + 1) y0 y1 y2))
  | 0 => fun _ _ _ r h => by simp [morton_gather.l0] at h
  | k + 1 => by
    have ih0 := morton_gather.mono_l k
    · intro y0 y1 y2
      unfold morton_gather.l0
      repeat' first
      | (with_reducible exact ih0 _ _ _)
      | (with_reducible exact LeO.refl _)
      | (with_reducible exact LeO.none _)
      | (with_reducible refine LeO.ite ?_ ?_)
      | (with_reducible refine LeO.bind ?_ (fun _ => ?_))
      | exact ih0 _ _ _
      | exact LeO.none _
      | refine LeO.ite ?_ ?_
      | refine LeO.bind ?_ (fun _ => ?_)
theorem morton_gather.mono : ∀ a0 k, LeO (morton_gather.f k a0) (morton_gather.f (k + 1) a0) := by
  intro a0 k
  have ih0 := morton_gather.mono_l k
  unfold morton_gather.f
  repeat' first
      | (with_reducible exact ih0 _ _ _)
      | (with_reducible exact LeO.refl _)
      | (with_reducible exact LeO.none _)
      | (with_reducible refine LeO.ite ?_ ?_)
      | (with_reducible refine LeO.bind ?_ (fun _ => ?_))
      | exact ih0 _ _ _
      | exact LeO.none _
      | refine LeO.ite ?_ ?_
      | refine LeO.bind ?_ (fun _ => ?_)
set_option maxHeartbeats 8000000 in
set_option maxRecDepth 100000 in
theorem morton_gather.calls (k : Nat) (a0 : Int) (r : Int) (w : World) (h : morton_gather.f k a0 = some r) :
    Calls Try.prog 44 #[.int .i64 a0] w fun e w' => e = .returned (.int .i64 r) ∧ Drawn0 w w' := by
  have H : (morton_gather.l0 k a0 0 0) = some r := h
  clear h
  have H' := Aside0.mk H
  clear H
  go_enter Try.func44, Try.ntmps44
  go_wp2
  go_loopg [3, 5] k (fun kq v3 v5 w' => ∃ (x3_1 : Int) (x5_1 : Int), v3 = .int .i64 x3_1 ∧ v5 = .int .i64 x5_1 ∧ Aside0 (morton_gather.l0 kq a0 x3_1 x5_1 = some r) ∧ Aside0 (kq ≤ k) ∧ Drawn0 w w')
  case atStart => exact ⟨(0), (0), (by first | rfl | (simp; done) | (simp [*]; done)), (by first | rfl | (simp; done) | (simp [*]; done)), H', ⟨Nat.le_refl _⟩, by repeat (first | exact Drawn0.refl _ | apply Drawn0.step)⟩
  case round =>
    clear H'
    obtain ⟨x3_1, x5_1, rfl, rfl, HA, HK1, ⟨m1, rfl⟩⟩ := hrel
    cases gk with
    | zero => exact absurd HA.out (by simp [morton_gather.l0])
    | succ k1 =>
      have H := HA.out
      clear HA
      simp only [morton_gather.l0] at H
      by_cases c2 : x5_1 < 16
      · rw [if_pos c2] at H
        have c2b0 : decide (x5_1 < 16) = true := decide_eq_true c2
        clear c2
        obtain ⟨ji3, hji3⟩ : ∃ j_ : Int, (wrap64 (2 * x5_1)) = j_ := ⟨_, rfl⟩
        replace H : (if 0 ≤ (ji3) then (if 0 ≤ x5_1 then (morton_gather.l0 k1 a0 (Go.bits .or .i64 x3_1 (shl .i64 (Go.bits .and .i64 (shr .i64 a0 (ji3)) 1) x5_1)) (wrap64 (x5_1 + 1))) else (none)) else (none)) = some r := by first | (rw [hji3] at H; exact H) | (simp only [hji3] at H ⊢; exact H)
        have hji3w : (IntKind.i64.wrap (2 * x5_1)) = ji3 := (i64_w _).trans hji3
        by_cases c4 : 0 ≤ (ji3)
        · rw [if_pos c4] at H
          have c4b0 := eq_true c4
          have c4b1 : decide (0 ≤ (ji3)) = true := decide_eq_true c4
          clear c4
          obtain ⟨ji5, hji5⟩ : ∃ j_ : Int, (shr .i64 a0 (ji3)) = j_ := ⟨_, rfl⟩
          replace H : (if 0 ≤ x5_1 then (morton_gather.l0 k1 a0 (Go.bits .or .i64 x3_1 (shl .i64 (Go.bits .and .i64 (ji5) 1) x5_1)) (wrap64 (x5_1 + 1))) else (none)) = some r := by first | (rw [hji5] at H; exact H) | (simp only [hji5] at H ⊢; exact H)
          have hji5_ : (a0 / 2 ^ min (ji3).toNat 64) = ji5 := hji5
          have hji5z : (ji3) ≤ 64 → (a0 / 2 ^ (ji3).toNat) = ji5 := shr_small hji5
          by_cases c6 : 0 ≤ x5_1
          · rw [if_pos c6] at H
            have c6b0 := eq_true c6
            have c6b1 : decide (0 ≤ x5_1) = true := decide_eq_true c6
            clear c6
            obtain ⟨ji7, hji7⟩ : ∃ j_ : Int, (shl .i64 (Go.bits .and .i64 (ji5) 1) x5_1) = j_ := ⟨_, rfl⟩
            replace H : (morton_gather.l0 k1 a0 (Go.bits .or .i64 x3_1 (ji7)) (wrap64 (x5_1 + 1))) = some r := by first | (rw [hji7] at H; exact H) | (simp only [hji7] at H ⊢; exact H)
            have hji7_ : (IntKind.i64.wrap ((Go.bits .and .i64 (ji5) 1) * 2 ^ min x5_1.toNat 64)) = ji7 := hji7
            have hji7z : x5_1 ≤ 64 → (IntKind.i64.wrap ((Go.bits .and .i64 (ji5) 1) * 2 ^ x5_1.toNat)) = ji7 := shl_small hji7
            have hji7y : (wrap64 ((Go.bits .and .i64 (ji5) 1) * 2 ^ min x5_1.toNat 64)) = ji7 := (i64_w _).symm.trans hji7_
            have hji7x : x5_1 ≤ 64 → (wrap64 ((Go.bits .and .i64 (ji5) 1) * 2 ^ x5_1.toNat)) = ji7 := fun h_ => (i64_w _).symm.trans (hji7z h_)
            have H' := Aside0.mk H
            clear H
            go_wp2
            go_roundg k1
            case measure => have := HK1.out; omega
            case rel => exact ⟨(Go.bits .or .i64 x3_1 (ji7)), (wrap64 (x5_1 + 1)), (by first | rfl | (simp; done) | (simp only [← hji7] <;> (first | rfl | simp)) | (simp [*]; done)), (by first | rfl | (simp; done) | (simp [*]; done)), H', ⟨by have := HK1.out; omega⟩, by repeat (first | exact Drawn0.refl _ | apply Drawn0.step)⟩
          · rw [if_neg c6] at H
            exact absurd H (by simp)
        · rw [if_neg c4] at H
          exact absurd H (by simp)
      · rw [if_neg c2] at H
        have c2b0 : decide (x5_1 < 16) = false := decide_eq_false c2
        clear c2
        obtain rfl := Option.some.inj H
        go_wp2
        go_ret
        exact ⟨by first | rfl | (simp; done) | (simp [*]; done), by repeat (first | exact Drawn0.refl _ | apply Drawn0.step)⟩

/-! ### morton_Apart: function 26 -/
def morton_Apart.f (k : Nat) (a0 : Int) : Option (Int × Int) := (morton_gather.f k (a0 / 2)).bind fun t109 => ((morton_gather.f k a0).bind fun t110 => (some (t109, t110)))
theorem morton_Apart.mono : ∀ a0 k, LeO (morton_Apart.f k a0) (morton_Apart.f (k + 1) a0) := by
  intro a0 k
  unfold morton_Apart.f
  repeat' first
      | (with_reducible exact morton_gather.mono _ _)
      | (with_reducible exact LeO.refl _)
      | (with_reducible exact LeO.none _)
      | (with_reducible refine LeO.ite ?_ ?_)
      | (with_reducible refine LeO.bind ?_ (fun _ => ?_))
      | exact morton_gather.mono _ _
      | exact LeO.none _
      | refine LeO.ite ?_ ?_
      | refine LeO.bind ?_ (fun _ => ?_)
set_option maxHeartbeats 8000000 in
set_option maxRecDepth 100000 in
theorem morton_Apart.calls (k : Nat) (a0 : Int) (r1 : Int) (r2 : Int) (w : World) (h : morton_Apart.f k a0 = some (r1, r2)) :
    Calls Try.prog 26 #[.int .i64 a0] w fun e w' => e = .returned (.tuple #[.int .i64 r1, .int .i64 r2]) ∧ Drawn0 w w' := by
  have H : ((morton_gather.f k (a0 / 2)).bind fun t109 => ((morton_gather.f k a0).bind fun t110 => (some (t109, t110)))) = some (r1, r2) := h
  clear h
  replace H := Option.bind_eq_some_iff.mp H
  obtain ⟨t109, A20, H⟩ := H
  replace H : ((morton_gather.f k a0).bind fun t110 => (some (t109, t110))) = some (r1, r2) := H
  have A2 := Aside0.mk A20
  clear A20
  replace H := Option.bind_eq_some_iff.mp H
  obtain ⟨t110, A30, H⟩ := H
  replace H : (some (t109, t110)) = some (r1, r2) := H
  have A3 := Aside0.mk A30
  clear A30
  simp only [Option.some.injEq, Prod.mk.injEq] at H
  obtain ⟨rfl, rfl⟩ := H
  go_enter Try.func26, Try.ntmps26
  go_wp2_with (first | ((with_reducible refine gate_callee (f := 44) rfl ?_); refine goesL_ (some 6) rfl rfl Try.func44 (by kernel_rfl) rfl #[.int .i64 (a0 / 2)] rfl (by (try simp only [List.map_toArray, List.map_cons, List.map_nil]); first | done | rfl | (simp only [List.length_drop, List.length_take]; rfl)) ?_; (with_reducible refine (morton_gather.calls k (a0 / 2) t109 _ A2.out).mono ?_); rintro e w' ⟨rfl, ⟨nd, rfl⟩⟩; refine ⟨_, rfl, ?_⟩) | ((with_reducible refine gate_callee (f := 44) rfl ?_); refine goesL_ (some 8) rfl rfl Try.func44 (by kernel_rfl) rfl #[.int .i64 a0] rfl (by (try simp only [List.map_toArray, List.map_cons, List.map_nil]); first | done | rfl | (simp only [List.length_drop, List.length_take]; rfl)) ?_; (with_reducible refine (morton_gather.calls k a0 t110 _ A3.out).mono ?_); rintro e w' ⟨rfl, ⟨nd, rfl⟩⟩; refine ⟨_, rfl, ?_⟩))
  go_ret2
  exact ⟨by first | rfl | (simp; done) | (simp [*]; done), by repeat (first | exact Drawn0.refl _ | apply Drawn0.step)⟩

/-! ### vernierlaw16_MortonTells: function 6 -/
mutual
def vernierlaw16_MortonTells.j0 : Nat → Int → Int → Int → Int → Int → Int → Int → Bool → Option (Bool)
  | 0, _, _, _, _, _, _, _, _ => none
  | k + 1, x0, x1, x2, x3, x4, x5, x13, x44 => if x44 = true then (if x2 = 0 then (none) else ((vernierlaw16_spread.f k (wrap64 (Int.tdiv x0 x2)) (wrap64 (Int.tdiv x1 x2))).bind fun t112 => (vernierlaw16_MortonTells.j1 k x0 x1 x2 x3 x4 x5 (wrap64 ((wrap64 ((wrap64 ((wrap64 (t112 * x2)) * x2)) + (wrap64 ((Int.tmod x0 x2) * x2)))) + (Int.tmod x1 x2)))))) else (vernierlaw16_MortonTells.j1 k x0 x1 x2 x3 x4 x5 x13)
def vernierlaw16_MortonTells.j1 : Nat → Int → Int → Int → Int → Int → Int → Int → Option (Bool)
  | 0, _, _, _, _, _, _, _ => none
  | k + 1, x0, x1, x2, x3, x4, x5, x13 => (morton_Side.f k x3 x4 x2).bind fun bt113 => ((morton_Size.f k x3 x4 x2).bind fun bt115 => ((vernierlaw16_side.f k x3 x4 x2).bind fun t117 => (if bt113.1 = t117 then (if bt115.1 = (wrap64 ((wrap64 ((wrap64 (t117 * t117)) * x2)) * x2)) then (if ((bt113.2 == 0) != (decide (t117 > 0))) = true then (vernierlaw16_MortonTells.j2 k x0 x1 x2 x5 x13 true) else (if bt115.2 = bt113.2 then (if bt113.2 = 0 then (vernierlaw16_MortonTells.j2 k x0 x1 x2 x5 x13 false) else (vernierlaw16_MortonTells.j2 k x0 x1 x2 x5 x13 (bt113.2 != 11))) else (vernierlaw16_MortonTells.j2 k x0 x1 x2 x5 x13 true))) else (vernierlaw16_MortonTells.j2 k x0 x1 x2 x5 x13 true)) else (vernierlaw16_MortonTells.j2 k x0 x1 x2 x5 x13 true))))
def vernierlaw16_MortonTells.j2 : Nat → Int → Int → Int → Int → Int → Bool → Option (Bool)
  | 0, _, _, _, _, _, _ => none
  | k + 1, x0, x1, x2, x5, x13, x117 => if x117 = true then (some false) else ((morton_Apart.f k x5).bind fun bt118 => ((morton_Interleave.f k x0 x1).bind fun t120 => ((vernierlaw16_spread.f k x0 x1).bind fun t121 => (if t120 = t121 then ((morton_Index.f k x0 x1 x2).bind fun t122 => (if t122 = x13 then ((vernierlaw16_spread.f k bt118.1 bt118.2).bind fun t123 => (some (t123 == (Go.bits .and .i64 x5 4294967295)))) else (some false))) else (some false)))))
end
def vernierlaw16_MortonTells.f (k : Nat) (a0 : Int) (a1 : Int) (a2 : Int) (a3 : Int) (a4 : Int) (a5 : Int) : Option (Bool) := (vernierlaw16_alive.f k).bind fun t111 => (if t111 = true then (if a0 ≥ 0 then (if a0 < 65536 then (if a1 ≥ 0 then (if a1 < 65536 then (if a2 ≥ 1 then (vernierlaw16_MortonTells.j0 k a0 a1 a2 a3 a4 a5 (-1) (decide (a2 ≤ 8))) else (vernierlaw16_MortonTells.j0 k a0 a1 a2 a3 a4 a5 (-1) false)) else (vernierlaw16_MortonTells.j0 k a0 a1 a2 a3 a4 a5 (-1) false)) else (vernierlaw16_MortonTells.j0 k a0 a1 a2 a3 a4 a5 (-1) false)) else (vernierlaw16_MortonTells.j0 k a0 a1 a2 a3 a4 a5 (-1) false)) else (vernierlaw16_MortonTells.j0 k a0 a1 a2 a3 a4 a5 (-1) false)) else (some false))
theorem vernierlaw16_MortonTells.mono_l : ∀ k, (∀ y0 y1 y2 y3 y4 y5 y6 y7, LeO (vernierlaw16_MortonTells.j0 k y0 y1 y2 y3 y4 y5 y6 y7) (vernierlaw16_MortonTells.j0 (k + 1) y0 y1 y2 y3 y4 y5 y6 y7)) ∧ (∀ y0 y1 y2 y3 y4 y5 y6, LeO (vernierlaw16_MortonTells.j1 k y0 y1 y2 y3 y4 y5 y6) (vernierlaw16_MortonTells.j1 (k + 1) y0 y1 y2 y3 y4 y5 y6)) ∧ (∀ y0 y1 y2 y3 y4 y5, LeO (vernierlaw16_MortonTells.j2 k y0 y1 y2 y3 y4 y5) (vernierlaw16_MortonTells.j2 (k + 1) y0 y1 y2 y3 y4 y5))
  | 0 => ⟨fun _ _ _ _ _ _ _ _ r h => by simp [vernierlaw16_MortonTells.j0] at h, fun _ _ _ _ _ _ _ r h => by simp [vernierlaw16_MortonTells.j1] at h, fun _ _ _ _ _ _ r h => by simp [vernierlaw16_MortonTells.j2] at h⟩
  | k + 1 => by
    obtain ⟨ih0, ih1, ih2⟩ := vernierlaw16_MortonTells.mono_l k
    refine ⟨?_, ?_, ?_⟩
    · intro y0 y1 y2 y3 y4 y5 y6 y7
      unfold vernierlaw16_MortonTells.j0
      repeat' first
      | (with_reducible exact ih0 _ _ _ _ _ _ _ _)
      | (with_reducible exact ih1 _ _ _ _ _ _ _)
      | (with_reducible exact ih2 _ _ _ _ _ _)
      | (with_reducible exact morton_Apart.mono _ _)
      | (with_reducible exact morton_Index.mono _ _ _ _)
      | (with_reducible exact morton_Interleave.mono _ _ _)
      | (with_reducible exact morton_Side.mono _ _ _ _)
      | (with_reducible exact morton_Size.mono _ _ _ _)
      | (with_reducible exact vernierlaw16_alive.mono _)
      | (with_reducible exact vernierlaw16_side.mono _ _ _ _)
      | (with_reducible exact vernierlaw16_spread.mono _ _ _)
      | (with_reducible exact LeO.refl _)
      | (with_reducible exact LeO.none _)
      | (with_reducible refine LeO.ite ?_ ?_)
      | (with_reducible refine LeO.bind ?_ (fun _ => ?_))
      | exact ih0 _ _ _ _ _ _ _ _
      | exact ih1 _ _ _ _ _ _ _
      | exact ih2 _ _ _ _ _ _
      | exact morton_Apart.mono _ _
      | exact morton_Index.mono _ _ _ _
      | exact morton_Interleave.mono _ _ _
      | exact morton_Side.mono _ _ _ _
      | exact morton_Size.mono _ _ _ _
      | exact vernierlaw16_alive.mono _
      | exact vernierlaw16_side.mono _ _ _ _
      | exact vernierlaw16_spread.mono _ _ _
      | exact LeO.none _
      | refine LeO.ite ?_ ?_
      | refine LeO.bind ?_ (fun _ => ?_)
    · intro y0 y1 y2 y3 y4 y5 y6
      unfold vernierlaw16_MortonTells.j1
      repeat' first
      | (with_reducible exact ih0 _ _ _ _ _ _ _ _)
      | (with_reducible exact ih1 _ _ _ _ _ _ _)
      | (with_reducible exact ih2 _ _ _ _ _ _)
      | (with_reducible exact morton_Apart.mono _ _)
      | (with_reducible exact morton_Index.mono _ _ _ _)
      | (with_reducible exact morton_Interleave.mono _ _ _)
      | (with_reducible exact morton_Side.mono _ _ _ _)
      | (with_reducible exact morton_Size.mono _ _ _ _)
      | (with_reducible exact vernierlaw16_alive.mono _)
      | (with_reducible exact vernierlaw16_side.mono _ _ _ _)
      | (with_reducible exact vernierlaw16_spread.mono _ _ _)
      | (with_reducible exact LeO.refl _)
      | (with_reducible exact LeO.none _)
      | (with_reducible refine LeO.ite ?_ ?_)
      | (with_reducible refine LeO.bind ?_ (fun _ => ?_))
      | exact ih0 _ _ _ _ _ _ _ _
      | exact ih1 _ _ _ _ _ _ _
      | exact ih2 _ _ _ _ _ _
      | exact morton_Apart.mono _ _
      | exact morton_Index.mono _ _ _ _
      | exact morton_Interleave.mono _ _ _
      | exact morton_Side.mono _ _ _ _
      | exact morton_Size.mono _ _ _ _
      | exact vernierlaw16_alive.mono _
      | exact vernierlaw16_side.mono _ _ _ _
      | exact vernierlaw16_spread.mono _ _ _
      | exact LeO.none _
      | refine LeO.ite ?_ ?_
      | refine LeO.bind ?_ (fun _ => ?_)
    · intro y0 y1 y2 y3 y4 y5
      unfold vernierlaw16_MortonTells.j2
      repeat' first
      | (with_reducible exact ih0 _ _ _ _ _ _ _ _)
      | (with_reducible exact ih1 _ _ _ _ _ _ _)
      | (with_reducible exact ih2 _ _ _ _ _ _)
      | (with_reducible exact morton_Apart.mono _ _)
      | (with_reducible exact morton_Index.mono _ _ _ _)
      | (with_reducible exact morton_Interleave.mono _ _ _)
      | (with_reducible exact morton_Side.mono _ _ _ _)
      | (with_reducible exact morton_Size.mono _ _ _ _)
      | (with_reducible exact vernierlaw16_alive.mono _)
      | (with_reducible exact vernierlaw16_side.mono _ _ _ _)
      | (with_reducible exact vernierlaw16_spread.mono _ _ _)
      | (with_reducible exact LeO.refl _)
      | (with_reducible exact LeO.none _)
      | (with_reducible refine LeO.ite ?_ ?_)
      | (with_reducible refine LeO.bind ?_ (fun _ => ?_))
      | exact ih0 _ _ _ _ _ _ _ _
      | exact ih1 _ _ _ _ _ _ _
      | exact ih2 _ _ _ _ _ _
      | exact morton_Apart.mono _ _
      | exact morton_Index.mono _ _ _ _
      | exact morton_Interleave.mono _ _ _
      | exact morton_Side.mono _ _ _ _
      | exact morton_Size.mono _ _ _ _
      | exact vernierlaw16_alive.mono _
      | exact vernierlaw16_side.mono _ _ _ _
      | exact vernierlaw16_spread.mono _ _ _
      | exact LeO.none _
      | refine LeO.ite ?_ ?_
      | refine LeO.bind ?_ (fun _ => ?_)
theorem vernierlaw16_MortonTells.mono : ∀ a0 a1 a2 a3 a4 a5 k, LeO (vernierlaw16_MortonTells.f k a0 a1 a2 a3 a4 a5) (vernierlaw16_MortonTells.f (k + 1) a0 a1 a2 a3 a4 a5) := by
  intro a0 a1 a2 a3 a4 a5 k
  obtain ⟨ih0, ih1, ih2⟩ := vernierlaw16_MortonTells.mono_l k
  unfold vernierlaw16_MortonTells.f
  repeat' first
      | (with_reducible exact ih0 _ _ _ _ _ _ _ _)
      | (with_reducible exact ih1 _ _ _ _ _ _ _)
      | (with_reducible exact ih2 _ _ _ _ _ _)
      | (with_reducible exact morton_Apart.mono _ _)
      | (with_reducible exact morton_Index.mono _ _ _ _)
      | (with_reducible exact morton_Interleave.mono _ _ _)
      | (with_reducible exact morton_Side.mono _ _ _ _)
      | (with_reducible exact morton_Size.mono _ _ _ _)
      | (with_reducible exact vernierlaw16_alive.mono _)
      | (with_reducible exact vernierlaw16_side.mono _ _ _ _)
      | (with_reducible exact vernierlaw16_spread.mono _ _ _)
      | (with_reducible exact LeO.refl _)
      | (with_reducible exact LeO.none _)
      | (with_reducible refine LeO.ite ?_ ?_)
      | (with_reducible refine LeO.bind ?_ (fun _ => ?_))
      | exact ih0 _ _ _ _ _ _ _ _
      | exact ih1 _ _ _ _ _ _ _
      | exact ih2 _ _ _ _ _ _
      | exact morton_Apart.mono _ _
      | exact morton_Index.mono _ _ _ _
      | exact morton_Interleave.mono _ _ _
      | exact morton_Side.mono _ _ _ _
      | exact morton_Size.mono _ _ _ _
      | exact vernierlaw16_alive.mono _
      | exact vernierlaw16_side.mono _ _ _ _
      | exact vernierlaw16_spread.mono _ _ _
      | exact LeO.none _
      | refine LeO.ite ?_ ?_
      | refine LeO.bind ?_ (fun _ => ?_)
set_option maxHeartbeats 8000000 in
set_option maxRecDepth 100000 in
theorem vernierlaw16_MortonTells.calls (k : Nat) (a0 : Int) (a1 : Int) (a2 : Int) (a3 : Int) (a4 : Int) (a5 : Int) (r : Bool) (w : World) (h : vernierlaw16_MortonTells.f k a0 a1 a2 a3 a4 a5 = some r) :
    Calls Try.prog 6 #[.int .i64 a0, .int .i64 a1, .int .i64 a2, .int .i64 a3, .int .i64 a4, .int .i64 a5] w fun e w' => e = .returned (.bool r) ∧ Below w.heap.size w w' := by
  have HB := Aside0.mk (Below.refl w.heap.size w)
  have H : ((vernierlaw16_alive.f k).bind fun t111 => (if t111 = true then (if a0 ≥ 0 then (if a0 < 65536 then (if a1 ≥ 0 then (if a1 < 65536 then (if a2 ≥ 1 then (vernierlaw16_MortonTells.j0 k a0 a1 a2 a3 a4 a5 (-1) (decide (a2 ≤ 8))) else (vernierlaw16_MortonTells.j0 k a0 a1 a2 a3 a4 a5 (-1) false)) else (vernierlaw16_MortonTells.j0 k a0 a1 a2 a3 a4 a5 (-1) false)) else (vernierlaw16_MortonTells.j0 k a0 a1 a2 a3 a4 a5 (-1) false)) else (vernierlaw16_MortonTells.j0 k a0 a1 a2 a3 a4 a5 (-1) false)) else (vernierlaw16_MortonTells.j0 k a0 a1 a2 a3 a4 a5 (-1) false)) else (some false))) = some r := h
  clear h
  replace H := Option.bind_eq_some_iff.mp H
  obtain ⟨t111, A70, H⟩ := H
  replace H : (if t111 = true then (if a0 ≥ 0 then (if a0 < 65536 then (if a1 ≥ 0 then (if a1 < 65536 then (if a2 ≥ 1 then (vernierlaw16_MortonTells.j0 k a0 a1 a2 a3 a4 a5 (-1) (decide (a2 ≤ 8))) else (vernierlaw16_MortonTells.j0 k a0 a1 a2 a3 a4 a5 (-1) false)) else (vernierlaw16_MortonTells.j0 k a0 a1 a2 a3 a4 a5 (-1) false)) else (vernierlaw16_MortonTells.j0 k a0 a1 a2 a3 a4 a5 (-1) false)) else (vernierlaw16_MortonTells.j0 k a0 a1 a2 a3 a4 a5 (-1) false)) else (vernierlaw16_MortonTells.j0 k a0 a1 a2 a3 a4 a5 (-1) false)) else (some false)) = some r := H
  have A7 := Aside0.mk A70
  clear A70
  by_cases c8 : t111 = true
  · subst c8
    have H1 : (if a0 ≥ 0 then (if a0 < 65536 then (if a1 ≥ 0 then (if a1 < 65536 then (if a2 ≥ 1 then (vernierlaw16_MortonTells.j0 k a0 a1 a2 a3 a4 a5 (-1) (decide (a2 ≤ 8))) else (vernierlaw16_MortonTells.j0 k a0 a1 a2 a3 a4 a5 (-1) false)) else (vernierlaw16_MortonTells.j0 k a0 a1 a2 a3 a4 a5 (-1) false)) else (vernierlaw16_MortonTells.j0 k a0 a1 a2 a3 a4 a5 (-1) false)) else (vernierlaw16_MortonTells.j0 k a0 a1 a2 a3 a4 a5 (-1) false)) else (vernierlaw16_MortonTells.j0 k a0 a1 a2 a3 a4 a5 (-1) false)) = some r := by rw [if_pos rfl] at H; exact H
    clear H
    have H := H1
    clear H1
    have HC9 := Aside0.mk H
    clear H
    go_enter Try.func6, Try.ntmps6
    go_upto_region 4 with (first | (go_at_call 12; (with_reducible refine (vernierlaw16_alive.calls k  true _ A7.out).mono ?_); rintro e w' ⟨rfl, ⟨nd, rfl⟩⟩; (try first | exact ⟨rfl, _, World.drewN_drewN _ _ _⟩ | exact ⟨rfl, _, Eq.trans (World.drewN_drewN _ _ _) (congrArg (World.drewN _) (Nat.add_assoc _ _ _))⟩)))
    repeat (go_quiet (first | (go_at_call 12; (with_reducible refine (vernierlaw16_alive.calls k  true _ A7.out).mono ?_); rintro e w' ⟨rfl, ⟨nd, rfl⟩⟩; (try first | exact ⟨rfl, _, World.drewN_drewN _ _ _⟩ | exact ⟨rfl, _, Eq.trans (World.drewN_drewN _ _ _) (congrArg (World.drewN _) (Nat.add_assoc _ _ _))⟩))); go_upto_region 4 with (first | (go_at_call 12; (with_reducible refine (vernierlaw16_alive.calls k  true _ A7.out).mono ?_); rintro e w' ⟨rfl, ⟨nd, rfl⟩⟩; (try first | exact ⟨rfl, _, World.drewN_drewN _ _ _⟩ | exact ⟨rfl, _, Eq.trans (World.drewN_drewN _ _ _) (congrArg (World.drewN _) (Nat.add_assoc _ _ _))⟩))))
    (try simp only [Act.put, List.setIfInBounds_toArray, List.set_cons_zero, List.set_cons_succ])
    go_cut [44] (fun v44 wc => ∃ (kq : Nat) (x44_8 : Bool), v44 = .bool x44_8 ∧ Aside0 (vernierlaw16_MortonTells.j0 kq a0 a1 a2 a3 a4 a5 (-1) x44_8 = some r) ∧ Aside0 (kq ≤ k) ∧ Aside0 (Below w.heap.size w wc))
    case first =>
      have H := HC9.out
      clear HC9
      by_cases c10 : a0 ≥ 0
      · rw [if_pos c10] at H
        have c10b0 : decide (0 ≤ a0) = true := decide_eq_true c10
        clear c10
        (first | rw [c10b0] | (simp only [i64_w, i32_w]; rw [c10b0]) | skip)
        by_cases c11 : a0 < 65536
        · rw [if_pos c11] at H
          have c11b0 : decide (a0 < 65536) = true := decide_eq_true c11
          clear c11
          by_cases c12 : a1 ≥ 0
          · rw [if_pos c12] at H
            have c12b0 : decide (0 ≤ a1) = true := decide_eq_true c12
            clear c12
            by_cases c13 : a1 < 65536
            · rw [if_pos c13] at H
              have c13b0 : decide (a1 < 65536) = true := decide_eq_true c13
              clear c13
              by_cases c14 : a2 ≥ 1
              · rw [if_pos c14] at H
                have c14b0 : decide (1 ≤ a2) = true := decide_eq_true c14
                clear c14
                have H' := Aside0.mk H
                clear H
                go_wp2
                repeat (go_quiet (fail); try go_wp2)
                go_meet
                case rel => exact ⟨_, (decide (a2 ≤ 8)), (by first | rfl | (simp; done) | (simp [*]; done)), H', ⟨by first | omega | exact Nat.le_refl _⟩, ⟨by repeat (first | (with_reducible first | exact HB.out | apply below_alloc | apply pw_below_drewN | apply below_drew1) | exact HB.out)⟩⟩
              · rw [if_neg c14] at H
                have c14b0 : decide (1 ≤ a2) = false := decide_eq_false c14
                clear c14
                have H' := Aside0.mk H
                clear H
                go_wp2
                repeat (go_quiet (fail); try go_wp2)
                go_meet
                case rel => exact ⟨_, (false), (by first | rfl | (simp; done) | (simp [*]; done)), H', ⟨by first | omega | exact Nat.le_refl _⟩, ⟨by repeat (first | (with_reducible first | exact HB.out | apply below_alloc | apply pw_below_drewN | apply below_drew1) | exact HB.out)⟩⟩
            · rw [if_neg c13] at H
              have c13b0 : decide (a1 < 65536) = false := decide_eq_false c13
              clear c13
              have H' := Aside0.mk H
              clear H
              go_wp2
              repeat (go_quiet (fail); try go_wp2)
              go_meet
              case rel => exact ⟨_, (false), (by first | rfl | (simp; done) | (simp [*]; done)), H', ⟨by first | omega | exact Nat.le_refl _⟩, ⟨by repeat (first | (with_reducible first | exact HB.out | apply below_alloc | apply pw_below_drewN | apply below_drew1) | exact HB.out)⟩⟩
          · rw [if_neg c12] at H
            have c12b0 : decide (0 ≤ a1) = false := decide_eq_false c12
            clear c12
            have H' := Aside0.mk H
            clear H
            go_wp2
            repeat (go_quiet (fail); try go_wp2)
            go_meet
            case rel => exact ⟨_, (false), (by first | rfl | (simp; done) | (simp [*]; done)), H', ⟨by first | omega | exact Nat.le_refl _⟩, ⟨by repeat (first | (with_reducible first | exact HB.out | apply below_alloc | apply pw_below_drewN | apply below_drew1) | exact HB.out)⟩⟩
        · rw [if_neg c11] at H
          have c11b0 : decide (a0 < 65536) = false := decide_eq_false c11
          clear c11
          have H' := Aside0.mk H
          clear H
          go_wp2
          repeat (go_quiet (fail); try go_wp2)
          go_meet
          case rel => exact ⟨_, (false), (by first | rfl | (simp; done) | (simp [*]; done)), H', ⟨by first | omega | exact Nat.le_refl _⟩, ⟨by repeat (first | (with_reducible first | exact HB.out | apply below_alloc | apply pw_below_drewN | apply below_drew1) | exact HB.out)⟩⟩
      · rw [if_neg c10] at H
        have c10b0 : decide (0 ≤ a0) = false := decide_eq_false c10
        clear c10
        (first | rw [c10b0] | (simp only [i64_w, i32_w]; rw [c10b0]) | skip)
        have H' := Aside0.mk H
        clear H
        go_wp2
        repeat (go_quiet (fail); try go_wp2)
        go_meet
        case rel => exact ⟨_, (false), (by first | rfl | (simp; done) | (simp [*]; done)), H', ⟨by first | omega | exact Nat.le_refl _⟩, ⟨by repeat (first | (with_reducible first | exact HB.out | apply below_alloc | apply pw_below_drewN | apply below_drew1) | exact HB.out)⟩⟩
    case rest =>
      clear HC9
      try clear c1
      try clear p2
      try clear c6
      try clear c8
      try clear c10
      try clear c10b0
      try clear c11
      try clear c11b0
      try clear c12
      try clear c12b0
      try clear c13
      try clear c13b0
      try clear c14
      try clear c14b0
      obtain ⟨kq, x44_8, rfl, HA, HJ8, HB⟩ := hcut
      cases kq with
      | zero => exact absurd HA.out (by simp [vernierlaw16_MortonTells.j0])
      | succ kj8 =>
        have H := HA.out
        clear HA
        simp only [vernierlaw16_MortonTells.j0] at H
        have HC15 := Aside0.mk H
        clear H
        go_upto_if 44 with (fail)
        repeat (go_quiet (fail); go_upto_if 44 with (fail))
        go_cut [13] (fun v13 wc => ∃ (kq : Nat) (x13_14 : Int), v13 = .int .i64 x13_14 ∧ Aside0 (vernierlaw16_MortonTells.j1 kq a0 a1 a2 a3 a4 a5 x13_14 = some r) ∧ Aside0 (kq ≤ kj8) ∧ Aside0 (Below w.heap.size w wc))
        case first =>
          have H := HC15.out
          clear HC15
          by_cases c16 : x44_8 = true
          · subst c16
            have H1 : (if a2 = 0 then (none) else ((vernierlaw16_spread.f kj8 (wrap64 (Int.tdiv a0 a2)) (wrap64 (Int.tdiv a1 a2))).bind fun t112 => (vernierlaw16_MortonTells.j1 kj8 a0 a1 a2 a3 a4 a5 (wrap64 ((wrap64 ((wrap64 ((wrap64 (t112 * a2)) * a2)) + (wrap64 ((Int.tmod a0 a2) * a2)))) + (Int.tmod a1 a2)))))) = some r := by rw [if_pos rfl] at H; exact H
            clear H
            have H := H1
            clear H1
            by_cases c17 : a2 = 0
            · rw [if_pos c17] at H
              exact absurd H (by simp)
            · rw [if_neg c17] at H
              have c17b0 : (a2 == 0) = false := beq_eq_false_iff_ne.mpr c17
              have c17b1 : (a2 != 0) = true := bne_iff_ne.mpr c17
              (first | rw [c17b0] | (simp only [i64_w, i32_w]; rw [c17b0]) | skip)
              replace H := Option.bind_eq_some_iff.mp H
              obtain ⟨t112, A180, H⟩ := H
              replace H : (vernierlaw16_MortonTells.j1 kj8 a0 a1 a2 a3 a4 a5 (wrap64 ((wrap64 ((wrap64 ((wrap64 (t112 * a2)) * a2)) + (wrap64 ((Int.tmod a0 a2) * a2)))) + (Int.tmod a1 a2)))) = some r := H
              have A18 := Aside0.mk A180
              clear A180
              have H' := Aside0.mk H
              clear H
              go_wp2_with (first | (go_at_call 22; (with_reducible refine (vernierlaw16_spread.calls kj8 (wrap64 (Int.tdiv a0 a2)) (wrap64 (Int.tdiv a1 a2)) t112 _ A18.out).mono ?_); rintro e w' ⟨rfl, ⟨nd, rfl⟩⟩; (try first | exact ⟨rfl, _, World.drewN_drewN _ _ _⟩ | exact ⟨rfl, _, Eq.trans (World.drewN_drewN _ _ _) (congrArg (World.drewN _) (Nat.add_assoc _ _ _))⟩)))
              repeat (go_quiet (first | (go_at_call 22; (with_reducible refine (vernierlaw16_spread.calls kj8 (wrap64 (Int.tdiv a0 a2)) (wrap64 (Int.tdiv a1 a2)) t112 _ A18.out).mono ?_); rintro e w' ⟨rfl, ⟨nd, rfl⟩⟩; (try first | exact ⟨rfl, _, World.drewN_drewN _ _ _⟩ | exact ⟨rfl, _, Eq.trans (World.drewN_drewN _ _ _) (congrArg (World.drewN _) (Nat.add_assoc _ _ _))⟩))); try go_wp2_with (first | (go_at_call 22; (with_reducible refine (vernierlaw16_spread.calls kj8 (wrap64 (Int.tdiv a0 a2)) (wrap64 (Int.tdiv a1 a2)) t112 _ A18.out).mono ?_); rintro e w' ⟨rfl, ⟨nd, rfl⟩⟩; (try first | exact ⟨rfl, _, World.drewN_drewN _ _ _⟩ | exact ⟨rfl, _, Eq.trans (World.drewN_drewN _ _ _) (congrArg (World.drewN _) (Nat.add_assoc _ _ _))⟩))))
              go_meet
              case rel => exact ⟨_, (wrap64 ((wrap64 ((wrap64 ((wrap64 (t112 * a2)) * a2)) + (wrap64 ((Int.tmod a0 a2) * a2)))) + (Int.tmod a1 a2))), (by first | rfl | (simp; done) | (simp [*]; done)), H', ⟨by have := HJ8.out; first | omega | exact Nat.le_refl _⟩, ⟨by repeat (first | (with_reducible first | exact HB.out | apply below_alloc | apply pw_below_drewN | apply below_drew1) | exact HB.out)⟩⟩
          · replace c16 := Bool.eq_false_iff.mpr c16
            subst c16
            have H1 : (vernierlaw16_MortonTells.j1 kj8 a0 a1 a2 a3 a4 a5 (-1)) = some r := by rw [if_neg (show ¬ (false = true) by decide)] at H; exact H
            clear H
            have H := H1
            clear H1
            have H' := Aside0.mk H
            clear H
            go_wp2
            repeat (go_quiet (fail); try go_wp2)
            go_meet
            case rel => exact ⟨_, ((-1)), (by first | rfl | (simp; done) | (simp [*]; done)), H', ⟨by have := HJ8.out; first | omega | exact Nat.le_refl _⟩, ⟨by repeat (first | (with_reducible first | exact HB.out | apply below_alloc | apply pw_below_drewN | apply below_drew1) | exact HB.out)⟩⟩
        case rest =>
          clear HC15
          try clear c1
          try clear p2
          try clear c6
          try clear p6
          try clear c8
          try clear c10
          try clear c10b0
          try clear c11
          try clear c11b0
          try clear c12
          try clear c12b0
          try clear c13
          try clear c13b0
          try clear c14
          try clear c14b0
          try clear c16
          try clear c17
          try clear c17b0
          try clear c17b1
          try clear p2
          obtain ⟨kq, x13_14, rfl, HA, HJ14, HB⟩ := hcut
          cases kq with
          | zero => exact absurd HA.out (by simp [vernierlaw16_MortonTells.j1])
          | succ kj14 =>
            have H := HA.out
            clear HA
            simp only [vernierlaw16_MortonTells.j1] at H
            replace H := Option.bind_eq_some_iff.mp H
            obtain ⟨⟨t113, t114⟩, A190, H⟩ := H
            replace H : ((morton_Size.f kj14 a3 a4 a2).bind fun bt115 => ((vernierlaw16_side.f kj14 a3 a4 a2).bind fun t117 => (if t113 = t117 then (if bt115.1 = (wrap64 ((wrap64 ((wrap64 (t117 * t117)) * a2)) * a2)) then (if ((t114 == 0) != (decide (t117 > 0))) = true then (vernierlaw16_MortonTells.j2 kj14 a0 a1 a2 a5 x13_14 true) else (if bt115.2 = t114 then (if t114 = 0 then (vernierlaw16_MortonTells.j2 kj14 a0 a1 a2 a5 x13_14 false) else (vernierlaw16_MortonTells.j2 kj14 a0 a1 a2 a5 x13_14 (t114 != 11))) else (vernierlaw16_MortonTells.j2 kj14 a0 a1 a2 a5 x13_14 true))) else (vernierlaw16_MortonTells.j2 kj14 a0 a1 a2 a5 x13_14 true)) else (vernierlaw16_MortonTells.j2 kj14 a0 a1 a2 a5 x13_14 true)))) = some r := H
            have A19 := Aside0.mk A190
            clear A190
            replace H := Option.bind_eq_some_iff.mp H
            obtain ⟨⟨t115, t116⟩, A200, H⟩ := H
            replace H : ((vernierlaw16_side.f kj14 a3 a4 a2).bind fun t117 => (if t113 = t117 then (if t115 = (wrap64 ((wrap64 ((wrap64 (t117 * t117)) * a2)) * a2)) then (if ((t114 == 0) != (decide (t117 > 0))) = true then (vernierlaw16_MortonTells.j2 kj14 a0 a1 a2 a5 x13_14 true) else (if t116 = t114 then (if t114 = 0 then (vernierlaw16_MortonTells.j2 kj14 a0 a1 a2 a5 x13_14 false) else (vernierlaw16_MortonTells.j2 kj14 a0 a1 a2 a5 x13_14 (t114 != 11))) else (vernierlaw16_MortonTells.j2 kj14 a0 a1 a2 a5 x13_14 true))) else (vernierlaw16_MortonTells.j2 kj14 a0 a1 a2 a5 x13_14 true)) else (vernierlaw16_MortonTells.j2 kj14 a0 a1 a2 a5 x13_14 true))) = some r := H
            have A20 := Aside0.mk A200
            clear A200
            replace H := Option.bind_eq_some_iff.mp H
            obtain ⟨t117, A210, H⟩ := H
            replace H : (if t113 = t117 then (if t115 = (wrap64 ((wrap64 ((wrap64 (t117 * t117)) * a2)) * a2)) then (if ((t114 == 0) != (decide (t117 > 0))) = true then (vernierlaw16_MortonTells.j2 kj14 a0 a1 a2 a5 x13_14 true) else (if t116 = t114 then (if t114 = 0 then (vernierlaw16_MortonTells.j2 kj14 a0 a1 a2 a5 x13_14 false) else (vernierlaw16_MortonTells.j2 kj14 a0 a1 a2 a5 x13_14 (t114 != 11))) else (vernierlaw16_MortonTells.j2 kj14 a0 a1 a2 a5 x13_14 true))) else (vernierlaw16_MortonTells.j2 kj14 a0 a1 a2 a5 x13_14 true)) else (vernierlaw16_MortonTells.j2 kj14 a0 a1 a2 a5 x13_14 true)) = some r := H
            have A21 := Aside0.mk A210
            clear A210
            have HC22 := Aside0.mk H
            clear H
            go_upto_region 9 with (first | (go_at_call 23; (with_reducible refine (morton_Side.calls kj14 a3 a4 a2 t113 t114 _ A19.out).mono ?_); rintro e w23 ⟨rfl, hb⟩; have n0_ := Aside0.mk (below_step (by repeat (first | (with_reducible first | exact HB.out | apply below_alloc | apply pw_below_drewN | apply below_drew1) | exact HB.out)) hb); clear HB; have HB := n0_; clear n0_; (try clear hb); (try clear hb2); (try clear hk); (try clear hi)) | (go_at_call 24; (with_reducible refine (morton_Size.calls kj14 a3 a4 a2 t115 t116 _ A20.out).mono ?_); rintro e w24 ⟨rfl, hb⟩; have n0_ := Aside0.mk (below_step (by repeat (first | (with_reducible first | exact HB.out | apply below_alloc | apply pw_below_drewN | apply below_drew1) | exact HB.out)) hb); clear HB; have HB := n0_; clear n0_; (try clear hb); (try clear hb2); (try clear hk); (try clear hi)) | (go_at_call 25; (with_reducible refine (vernierlaw16_side.calls kj14 a3 a4 a2 t117 _ A21.out).mono ?_); rintro e w' ⟨rfl, ⟨nd, rfl⟩⟩; (try first | exact ⟨rfl, _, World.drewN_drewN _ _ _⟩ | exact ⟨rfl, _, Eq.trans (World.drewN_drewN _ _ _) (congrArg (World.drewN _) (Nat.add_assoc _ _ _))⟩)))
            repeat (go_quiet (first | (go_at_call 23; (with_reducible refine (morton_Side.calls kj14 a3 a4 a2 t113 t114 _ A19.out).mono ?_); rintro e w23 ⟨rfl, hb⟩; have n0_ := Aside0.mk (below_step (by repeat (first | (with_reducible first | exact HB.out | apply below_alloc | apply pw_below_drewN | apply below_drew1) | exact HB.out)) hb); clear HB; have HB := n0_; clear n0_; (try clear hb); (try clear hb2); (try clear hk); (try clear hi)) | (go_at_call 24; (with_reducible refine (morton_Size.calls kj14 a3 a4 a2 t115 t116 _ A20.out).mono ?_); rintro e w24 ⟨rfl, hb⟩; have n0_ := Aside0.mk (below_step (by repeat (first | (with_reducible first | exact HB.out | apply below_alloc | apply pw_below_drewN | apply below_drew1) | exact HB.out)) hb); clear HB; have HB := n0_; clear n0_; (try clear hb); (try clear hb2); (try clear hk); (try clear hi)) | (go_at_call 25; (with_reducible refine (vernierlaw16_side.calls kj14 a3 a4 a2 t117 _ A21.out).mono ?_); rintro e w' ⟨rfl, ⟨nd, rfl⟩⟩; (try first | exact ⟨rfl, _, World.drewN_drewN _ _ _⟩ | exact ⟨rfl, _, Eq.trans (World.drewN_drewN _ _ _) (congrArg (World.drewN _) (Nat.add_assoc _ _ _))⟩))); go_upto_region 9 with (first | (go_at_call 23; (with_reducible refine (morton_Side.calls kj14 a3 a4 a2 t113 t114 _ A19.out).mono ?_); rintro e w23 ⟨rfl, hb⟩; have n0_ := Aside0.mk (below_step (by repeat (first | (with_reducible first | exact HB.out | apply below_alloc | apply pw_below_drewN | apply below_drew1) | exact HB.out)) hb); clear HB; have HB := n0_; clear n0_; (try clear hb); (try clear hb2); (try clear hk); (try clear hi)) | (go_at_call 24; (with_reducible refine (morton_Size.calls kj14 a3 a4 a2 t115 t116 _ A20.out).mono ?_); rintro e w24 ⟨rfl, hb⟩; have n0_ := Aside0.mk (below_step (by repeat (first | (with_reducible first | exact HB.out | apply below_alloc | apply pw_below_drewN | apply below_drew1) | exact HB.out)) hb); clear HB; have HB := n0_; clear n0_; (try clear hb); (try clear hb2); (try clear hk); (try clear hi)) | (go_at_call 25; (with_reducible refine (vernierlaw16_side.calls kj14 a3 a4 a2 t117 _ A21.out).mono ?_); rintro e w' ⟨rfl, ⟨nd, rfl⟩⟩; (try first | exact ⟨rfl, _, World.drewN_drewN _ _ _⟩ | exact ⟨rfl, _, Eq.trans (World.drewN_drewN _ _ _) (congrArg (World.drewN _) (Nat.add_assoc _ _ _))⟩))))
            (try simp only [Act.put, List.setIfInBounds_toArray, List.set_cons_zero, List.set_cons_succ])
            go_cut [117] (fun v117 wc => ∃ (kq : Nat) (x117_21 : Bool), v117 = .bool x117_21 ∧ Aside0 (vernierlaw16_MortonTells.j2 kq a0 a1 a2 a5 x13_14 x117_21 = some r) ∧ Aside0 (kq ≤ kj14) ∧ Aside0 (Below w.heap.size w wc))
            case first =>
              have H := HC22.out
              clear HC22
              by_cases c25 : t113 = t117
              · rw [if_pos c25] at H
                have c25b0 : (t113 == t117) = true := beq_iff_eq.mpr c25
                have c25b1 : (t113 != t117) = false := bne_eq_false_iff_eq.mpr c25
                clear c25
                (first | rw [c25b0] | (simp only [i64_w, i32_w]; rw [c25b0]) | skip)
                by_cases c26 : t115 = (wrap64 ((wrap64 ((wrap64 (t117 * t117)) * a2)) * a2))
                · rw [if_pos c26] at H
                  have c26b0 : (t115 == (wrap64 ((wrap64 ((wrap64 (t117 * t117)) * a2)) * a2))) = true := beq_iff_eq.mpr c26
                  have c26b1 : (t115 != (wrap64 ((wrap64 ((wrap64 (t117 * t117)) * a2)) * a2))) = false := bne_eq_false_iff_eq.mpr c26
                  clear c26
                  by_cases c27 : ((t114 == 0) != (decide (t117 > 0))) = true
                  · rw [if_pos c27] at H
                    have c27b0 : ((t114 == 0) != (decide (t117 > 0))) = true := c27
                    (try (have c27b1 : decide ((t114 == 0) = (decide (t117 > 0))) = false := by simpa using c27))
                    (try (have c27b2 : ((t114 == 0) == (decide (t117 > 0))) = false := by simpa using c27))
                    (try (have c27b3 : ¬ ((t114 == 0) = (decide (t117 > 0))) := by simpa using c27))
                    clear c27
                    have H' := Aside0.mk H
                    clear H
                    go_wp2
                    repeat (go_quiet (fail); try go_wp2)
                    go_meet
                    case rel => exact ⟨_, (true), (by first | rfl | (simp; done) | (simp [*]; done)), H', ⟨by have := HJ8.out; have := HJ14.out; first | omega | exact Nat.le_refl _⟩, ⟨by repeat (first | (with_reducible first | exact HB.out | apply below_alloc | apply pw_below_drewN | apply below_drew1) | exact HB.out)⟩⟩
                  · rw [if_neg c27] at H
                    have c27b0 : ((t114 == 0) != (decide (t117 > 0))) = false := by simpa using c27
                    (try (have c27b1 : decide ((t114 == 0) = (decide (t117 > 0))) = true := by simpa using c27))
                    (try (have c27b2 : ((t114 == 0) == (decide (t117 > 0))) = true := by simpa using c27))
                    clear c27
                    by_cases c28 : t116 = t114
                    · rw [if_pos c28] at H
                      have c28b0 : (t116 == t114) = true := beq_iff_eq.mpr c28
                      have c28b1 : (t116 != t114) = false := bne_eq_false_iff_eq.mpr c28
                      clear c28
                      by_cases c29 : t114 = 0
                      · rw [if_pos c29] at H
                        have c29b0 : (t114 == 0) = true := beq_iff_eq.mpr c29
                        have c29b1 : (t114 != 0) = false := bne_eq_false_iff_eq.mpr c29
                        have c29y : decide (0 < t117) = true := by have c29x := c27b0; rw [c29b0] at c29x; simpa using c29x
                        clear c29
                        have H' := Aside0.mk H
                        clear H
                        go_wp2
                        repeat (go_quiet (fail); try go_wp2)
                        go_meet
                        case rel => exact ⟨_, (false), (by first | rfl | (simp; done) | (simp [*]; done)), H', ⟨by have := HJ8.out; have := HJ14.out; first | omega | exact Nat.le_refl _⟩, ⟨by repeat (first | (with_reducible first | exact HB.out | apply below_alloc | apply pw_below_drewN | apply below_drew1) | exact HB.out)⟩⟩
                      · rw [if_neg c29] at H
                        have c29b0 : (t114 == 0) = false := beq_eq_false_iff_ne.mpr c29
                        have c29b1 : (t114 != 0) = true := bne_iff_ne.mpr c29
                        have c29y : decide (0 < t117) = false := by have c29x := c27b0; rw [c29b0] at c29x; simpa using c29x
                        have H' := Aside0.mk H
                        clear H
                        go_wp2
                        repeat (go_quiet (fail); try go_wp2)
                        go_meet
                        case rel => exact ⟨_, ((t114 != 11)), (by first | rfl | (simp; done) | (simp [*]; done)), H', ⟨by have := HJ8.out; have := HJ14.out; first | omega | exact Nat.le_refl _⟩, ⟨by repeat (first | (with_reducible first | exact HB.out | apply below_alloc | apply pw_below_drewN | apply below_drew1) | exact HB.out)⟩⟩
                    · rw [if_neg c28] at H
                      have c28b0 : (t116 == t114) = false := beq_eq_false_iff_ne.mpr c28
                      have c28b1 : (t116 != t114) = true := bne_iff_ne.mpr c28
                      have H' := Aside0.mk H
                      clear H
                      go_wp2
                      repeat (go_quiet (fail); try go_wp2)
                      go_meet
                      case rel => exact ⟨_, (true), (by first | rfl | (simp; done) | (simp [*]; done)), H', ⟨by have := HJ8.out; have := HJ14.out; first | omega | exact Nat.le_refl _⟩, ⟨by repeat (first | (with_reducible first | exact HB.out | apply below_alloc | apply pw_below_drewN | apply below_drew1) | exact HB.out)⟩⟩
                · rw [if_neg c26] at H
                  have c26b0 : (t115 == (wrap64 ((wrap64 ((wrap64 (t117 * t117)) * a2)) * a2))) = false := beq_eq_false_iff_ne.mpr c26
                  have c26b1 : (t115 != (wrap64 ((wrap64 ((wrap64 (t117 * t117)) * a2)) * a2))) = true := bne_iff_ne.mpr c26
                  have H' := Aside0.mk H
                  clear H
                  go_wp2
                  repeat (go_quiet (fail); try go_wp2)
                  go_meet
                  case rel => exact ⟨_, (true), (by first | rfl | (simp; done) | (simp [*]; done)), H', ⟨by have := HJ8.out; have := HJ14.out; first | omega | exact Nat.le_refl _⟩, ⟨by repeat (first | (with_reducible first | exact HB.out | apply below_alloc | apply pw_below_drewN | apply below_drew1) | exact HB.out)⟩⟩
              · rw [if_neg c25] at H
                have c25b0 : (t113 == t117) = false := beq_eq_false_iff_ne.mpr c25
                have c25b1 : (t113 != t117) = true := bne_iff_ne.mpr c25
                (first | rw [c25b0] | (simp only [i64_w, i32_w]; rw [c25b0]) | skip)
                have H' := Aside0.mk H
                clear H
                go_wp2
                repeat (go_quiet (fail); try go_wp2)
                go_meet
                case rel => exact ⟨_, (true), (by first | rfl | (simp; done) | (simp [*]; done)), H', ⟨by have := HJ8.out; have := HJ14.out; first | omega | exact Nat.le_refl _⟩, ⟨by repeat (first | (with_reducible first | exact HB.out | apply below_alloc | apply pw_below_drewN | apply below_drew1) | exact HB.out)⟩⟩
            case rest =>
              clear HC22
              try clear c1
              try clear c2
              try clear p2
              try clear c6
              try clear p6
              try clear c8
              try clear c10
              try clear c10b0
              try clear c11
              try clear c11b0
              try clear c12
              try clear c12b0
              try clear c13
              try clear c13b0
              try clear c14
              try clear c14b0
              try clear c16
              try clear c17
              try clear c17b0
              try clear c17b1
              try clear c25
              try clear c25b0
              try clear c25b1
              try clear c26
              try clear c26b0
              try clear c26b1
              try clear c27
              try clear c27b0
              try clear c27b1
              try clear c27b2
              try clear c28
              try clear c28b0
              try clear c28b1
              try clear c29
              try clear c29b0
              try clear c29b1
              try clear p2
              try clear p6
              obtain ⟨kq, x117_21, rfl, HA, HJ21, HB⟩ := hcut
              cases kq with
              | zero => exact absurd HA.out (by simp [vernierlaw16_MortonTells.j2])
              | succ kj21 =>
                have H := HA.out
                clear HA
                simp only [vernierlaw16_MortonTells.j2] at H
                by_cases c30 : x117_21 = true
                · subst c30
                  have H1 : (some false) = some r := by rw [if_pos rfl] at H; exact H
                  clear H
                  have H := H1
                  clear H1
                  obtain rfl := Option.some.inj H
                  go_wp2
                  repeat (go_quiet (fail); try go_wp2)
                  go_ret
                  exact ⟨by first | rfl | (simp [errW_none, errW_some] <;> rfl) | (simp [*, errW_none, errW_some] <;> rfl), by repeat (first | (with_reducible first | exact HB.out | apply below_alloc | apply pw_below_drewN | apply below_drew1) | exact HB.out)⟩
                · replace c30 := Bool.eq_false_iff.mpr c30
                  subst c30
                  have H1 : ((morton_Apart.f kj21 a5).bind fun bt118 => ((morton_Interleave.f kj21 a0 a1).bind fun t120 => ((vernierlaw16_spread.f kj21 a0 a1).bind fun t121 => (if t120 = t121 then ((morton_Index.f kj21 a0 a1 a2).bind fun t122 => (if t122 = x13_14 then ((vernierlaw16_spread.f kj21 bt118.1 bt118.2).bind fun t123 => (some (t123 == (Go.bits .and .i64 a5 4294967295)))) else (some false))) else (some false))))) = some r := by rw [if_neg (show ¬ (false = true) by decide)] at H; exact H
                  clear H
                  have H := H1
                  clear H1
                  replace H := Option.bind_eq_some_iff.mp H
                  obtain ⟨⟨t118, t119⟩, A310, H⟩ := H
                  replace H : ((morton_Interleave.f kj21 a0 a1).bind fun t120 => ((vernierlaw16_spread.f kj21 a0 a1).bind fun t121 => (if t120 = t121 then ((morton_Index.f kj21 a0 a1 a2).bind fun t122 => (if t122 = x13_14 then ((vernierlaw16_spread.f kj21 t118 t119).bind fun t123 => (some (t123 == (Go.bits .and .i64 a5 4294967295)))) else (some false))) else (some false)))) = some r := H
                  have A31 := Aside0.mk A310
                  clear A310
                  replace H := Option.bind_eq_some_iff.mp H
                  obtain ⟨t120, A320, H⟩ := H
                  replace H : ((vernierlaw16_spread.f kj21 a0 a1).bind fun t121 => (if t120 = t121 then ((morton_Index.f kj21 a0 a1 a2).bind fun t122 => (if t122 = x13_14 then ((vernierlaw16_spread.f kj21 t118 t119).bind fun t123 => (some (t123 == (Go.bits .and .i64 a5 4294967295)))) else (some false))) else (some false))) = some r := H
                  have A32 := Aside0.mk A320
                  clear A320
                  replace H := Option.bind_eq_some_iff.mp H
                  obtain ⟨t121, A330, H⟩ := H
                  replace H : (if t120 = t121 then ((morton_Index.f kj21 a0 a1 a2).bind fun t122 => (if t122 = x13_14 then ((vernierlaw16_spread.f kj21 t118 t119).bind fun t123 => (some (t123 == (Go.bits .and .i64 a5 4294967295)))) else (some false))) else (some false)) = some r := H
                  have A33 := Aside0.mk A330
                  clear A330
                  by_cases c34 : t120 = t121
                  · rw [if_pos c34] at H
                    have c34b0 : (t120 == t121) = true := beq_iff_eq.mpr c34
                    have c34b1 : (t120 != t121) = false := bne_eq_false_iff_eq.mpr c34
                    clear c34
                    replace H := Option.bind_eq_some_iff.mp H
                    obtain ⟨t122, A350, H⟩ := H
                    replace H : (if t122 = x13_14 then ((vernierlaw16_spread.f kj21 t118 t119).bind fun t123 => (some (t123 == (Go.bits .and .i64 a5 4294967295)))) else (some false)) = some r := H
                    have A35 := Aside0.mk A350
                    clear A350
                    by_cases c36 : t122 = x13_14
                    · rw [if_pos c36] at H
                      have c36b0 : (t122 == x13_14) = true := beq_iff_eq.mpr c36
                      have c36b1 : (t122 != x13_14) = false := bne_eq_false_iff_eq.mpr c36
                      clear c36
                      replace H := Option.bind_eq_some_iff.mp H
                      obtain ⟨t123, A370, H⟩ := H
                      replace H : (some (t123 == (Go.bits .and .i64 a5 4294967295))) = some r := H
                      have A37 := Aside0.mk A370
                      clear A370
                      obtain rfl := Option.some.inj H
                      go_wp2_with (first | (go_at_call 26; (with_reducible refine (morton_Apart.calls kj21 a5 t118 t119 _ A31.out).mono ?_); rintro e w' ⟨rfl, ⟨nd, rfl⟩⟩; (try first | exact ⟨rfl, _, World.drewN_drewN _ _ _⟩ | exact ⟨rfl, _, Eq.trans (World.drewN_drewN _ _ _) (congrArg (World.drewN _) (Nat.add_assoc _ _ _))⟩)) | (go_at_call 27; (with_reducible refine (morton_Interleave.calls kj21 a0 a1 t120 _ A32.out).mono ?_); rintro e w' ⟨rfl, ⟨nd, rfl⟩⟩; (try first | exact ⟨rfl, _, World.drewN_drewN _ _ _⟩ | exact ⟨rfl, _, Eq.trans (World.drewN_drewN _ _ _) (congrArg (World.drewN _) (Nat.add_assoc _ _ _))⟩)) | (go_at_call 22; (with_reducible refine (vernierlaw16_spread.calls kj21 a0 a1 t121 _ A33.out).mono ?_); rintro e w' ⟨rfl, ⟨nd, rfl⟩⟩; (try first | exact ⟨rfl, _, World.drewN_drewN _ _ _⟩ | exact ⟨rfl, _, Eq.trans (World.drewN_drewN _ _ _) (congrArg (World.drewN _) (Nat.add_assoc _ _ _))⟩)) | (go_at_call 13; (with_reducible refine (morton_Index.calls kj21 a0 a1 a2 t122 _ A35.out).mono ?_); rintro e w' ⟨rfl, ⟨nd, rfl⟩⟩; (try first | exact ⟨rfl, _, World.drewN_drewN _ _ _⟩ | exact ⟨rfl, _, Eq.trans (World.drewN_drewN _ _ _) (congrArg (World.drewN _) (Nat.add_assoc _ _ _))⟩)) | (go_at_call 22; (with_reducible refine (vernierlaw16_spread.calls kj21 t118 t119 t123 _ A37.out).mono ?_); rintro e w' ⟨rfl, ⟨nd, rfl⟩⟩; (try first | exact ⟨rfl, _, World.drewN_drewN _ _ _⟩ | exact ⟨rfl, _, Eq.trans (World.drewN_drewN _ _ _) (congrArg (World.drewN _) (Nat.add_assoc _ _ _))⟩)))
                      repeat (go_quiet (first | (go_at_call 26; (with_reducible refine (morton_Apart.calls kj21 a5 t118 t119 _ A31.out).mono ?_); rintro e w' ⟨rfl, ⟨nd, rfl⟩⟩; (try first | exact ⟨rfl, _, World.drewN_drewN _ _ _⟩ | exact ⟨rfl, _, Eq.trans (World.drewN_drewN _ _ _) (congrArg (World.drewN _) (Nat.add_assoc _ _ _))⟩)) | (go_at_call 27; (with_reducible refine (morton_Interleave.calls kj21 a0 a1 t120 _ A32.out).mono ?_); rintro e w' ⟨rfl, ⟨nd, rfl⟩⟩; (try first | exact ⟨rfl, _, World.drewN_drewN _ _ _⟩ | exact ⟨rfl, _, Eq.trans (World.drewN_drewN _ _ _) (congrArg (World.drewN _) (Nat.add_assoc _ _ _))⟩)) | (go_at_call 22; (with_reducible refine (vernierlaw16_spread.calls kj21 a0 a1 t121 _ A33.out).mono ?_); rintro e w' ⟨rfl, ⟨nd, rfl⟩⟩; (try first | exact ⟨rfl, _, World.drewN_drewN _ _ _⟩ | exact ⟨rfl, _, Eq.trans (World.drewN_drewN _ _ _) (congrArg (World.drewN _) (Nat.add_assoc _ _ _))⟩)) | (go_at_call 13; (with_reducible refine (morton_Index.calls kj21 a0 a1 a2 t122 _ A35.out).mono ?_); rintro e w' ⟨rfl, ⟨nd, rfl⟩⟩; (try first | exact ⟨rfl, _, World.drewN_drewN _ _ _⟩ | exact ⟨rfl, _, Eq.trans (World.drewN_drewN _ _ _) (congrArg (World.drewN _) (Nat.add_assoc _ _ _))⟩)) | (go_at_call 22; (with_reducible refine (vernierlaw16_spread.calls kj21 t118 t119 t123 _ A37.out).mono ?_); rintro e w' ⟨rfl, ⟨nd, rfl⟩⟩; (try first | exact ⟨rfl, _, World.drewN_drewN _ _ _⟩ | exact ⟨rfl, _, Eq.trans (World.drewN_drewN _ _ _) (congrArg (World.drewN _) (Nat.add_assoc _ _ _))⟩))); try go_wp2_with (first | (go_at_call 26; (with_reducible refine (morton_Apart.calls kj21 a5 t118 t119 _ A31.out).mono ?_); rintro e w' ⟨rfl, ⟨nd, rfl⟩⟩; (try first | exact ⟨rfl, _, World.drewN_drewN _ _ _⟩ | exact ⟨rfl, _, Eq.trans (World.drewN_drewN _ _ _) (congrArg (World.drewN _) (Nat.add_assoc _ _ _))⟩)) | (go_at_call 27; (with_reducible refine (morton_Interleave.calls kj21 a0 a1 t120 _ A32.out).mono ?_); rintro e w' ⟨rfl, ⟨nd, rfl⟩⟩; (try first | exact ⟨rfl, _, World.drewN_drewN _ _ _⟩ | exact ⟨rfl, _, Eq.trans (World.drewN_drewN _ _ _) (congrArg (World.drewN _) (Nat.add_assoc _ _ _))⟩)) | (go_at_call 22; (with_reducible refine (vernierlaw16_spread.calls kj21 a0 a1 t121 _ A33.out).mono ?_); rintro e w' ⟨rfl, ⟨nd, rfl⟩⟩; (try first | exact ⟨rfl, _, World.drewN_drewN _ _ _⟩ | exact ⟨rfl, _, Eq.trans (World.drewN_drewN _ _ _) (congrArg (World.drewN _) (Nat.add_assoc _ _ _))⟩)) | (go_at_call 13; (with_reducible refine (morton_Index.calls kj21 a0 a1 a2 t122 _ A35.out).mono ?_); rintro e w' ⟨rfl, ⟨nd, rfl⟩⟩; (try first | exact ⟨rfl, _, World.drewN_drewN _ _ _⟩ | exact ⟨rfl, _, Eq.trans (World.drewN_drewN _ _ _) (congrArg (World.drewN _) (Nat.add_assoc _ _ _))⟩)) | (go_at_call 22; (with_reducible refine (vernierlaw16_spread.calls kj21 t118 t119 t123 _ A37.out).mono ?_); rintro e w' ⟨rfl, ⟨nd, rfl⟩⟩; (try first | exact ⟨rfl, _, World.drewN_drewN _ _ _⟩ | exact ⟨rfl, _, Eq.trans (World.drewN_drewN _ _ _) (congrArg (World.drewN _) (Nat.add_assoc _ _ _))⟩))))
                      go_ret
                      exact ⟨by first | rfl | (simp [errW_none, errW_some] <;> rfl) | (simp [*, errW_none, errW_some] <;> rfl), by repeat (first | (with_reducible first | exact HB.out | apply below_alloc | apply pw_below_drewN | apply below_drew1) | exact HB.out)⟩
                    · rw [if_neg c36] at H
                      have c36b0 : (t122 == x13_14) = false := beq_eq_false_iff_ne.mpr c36
                      have c36b1 : (t122 != x13_14) = true := bne_iff_ne.mpr c36
                      obtain rfl := Option.some.inj H
                      go_wp2_with (first | (go_at_call 26; (with_reducible refine (morton_Apart.calls kj21 a5 t118 t119 _ A31.out).mono ?_); rintro e w' ⟨rfl, ⟨nd, rfl⟩⟩; (try first | exact ⟨rfl, _, World.drewN_drewN _ _ _⟩ | exact ⟨rfl, _, Eq.trans (World.drewN_drewN _ _ _) (congrArg (World.drewN _) (Nat.add_assoc _ _ _))⟩)) | (go_at_call 27; (with_reducible refine (morton_Interleave.calls kj21 a0 a1 t120 _ A32.out).mono ?_); rintro e w' ⟨rfl, ⟨nd, rfl⟩⟩; (try first | exact ⟨rfl, _, World.drewN_drewN _ _ _⟩ | exact ⟨rfl, _, Eq.trans (World.drewN_drewN _ _ _) (congrArg (World.drewN _) (Nat.add_assoc _ _ _))⟩)) | (go_at_call 22; (with_reducible refine (vernierlaw16_spread.calls kj21 a0 a1 t121 _ A33.out).mono ?_); rintro e w' ⟨rfl, ⟨nd, rfl⟩⟩; (try first | exact ⟨rfl, _, World.drewN_drewN _ _ _⟩ | exact ⟨rfl, _, Eq.trans (World.drewN_drewN _ _ _) (congrArg (World.drewN _) (Nat.add_assoc _ _ _))⟩)) | (go_at_call 13; (with_reducible refine (morton_Index.calls kj21 a0 a1 a2 t122 _ A35.out).mono ?_); rintro e w' ⟨rfl, ⟨nd, rfl⟩⟩; (try first | exact ⟨rfl, _, World.drewN_drewN _ _ _⟩ | exact ⟨rfl, _, Eq.trans (World.drewN_drewN _ _ _) (congrArg (World.drewN _) (Nat.add_assoc _ _ _))⟩)))
                      repeat (go_quiet (first | (go_at_call 26; (with_reducible refine (morton_Apart.calls kj21 a5 t118 t119 _ A31.out).mono ?_); rintro e w' ⟨rfl, ⟨nd, rfl⟩⟩; (try first | exact ⟨rfl, _, World.drewN_drewN _ _ _⟩ | exact ⟨rfl, _, Eq.trans (World.drewN_drewN _ _ _) (congrArg (World.drewN _) (Nat.add_assoc _ _ _))⟩)) | (go_at_call 27; (with_reducible refine (morton_Interleave.calls kj21 a0 a1 t120 _ A32.out).mono ?_); rintro e w' ⟨rfl, ⟨nd, rfl⟩⟩; (try first | exact ⟨rfl, _, World.drewN_drewN _ _ _⟩ | exact ⟨rfl, _, Eq.trans (World.drewN_drewN _ _ _) (congrArg (World.drewN _) (Nat.add_assoc _ _ _))⟩)) | (go_at_call 22; (with_reducible refine (vernierlaw16_spread.calls kj21 a0 a1 t121 _ A33.out).mono ?_); rintro e w' ⟨rfl, ⟨nd, rfl⟩⟩; (try first | exact ⟨rfl, _, World.drewN_drewN _ _ _⟩ | exact ⟨rfl, _, Eq.trans (World.drewN_drewN _ _ _) (congrArg (World.drewN _) (Nat.add_assoc _ _ _))⟩)) | (go_at_call 13; (with_reducible refine (morton_Index.calls kj21 a0 a1 a2 t122 _ A35.out).mono ?_); rintro e w' ⟨rfl, ⟨nd, rfl⟩⟩; (try first | exact ⟨rfl, _, World.drewN_drewN _ _ _⟩ | exact ⟨rfl, _, Eq.trans (World.drewN_drewN _ _ _) (congrArg (World.drewN _) (Nat.add_assoc _ _ _))⟩))); try go_wp2_with (first | (go_at_call 26; (with_reducible refine (morton_Apart.calls kj21 a5 t118 t119 _ A31.out).mono ?_); rintro e w' ⟨rfl, ⟨nd, rfl⟩⟩; (try first | exact ⟨rfl, _, World.drewN_drewN _ _ _⟩ | exact ⟨rfl, _, Eq.trans (World.drewN_drewN _ _ _) (congrArg (World.drewN _) (Nat.add_assoc _ _ _))⟩)) | (go_at_call 27; (with_reducible refine (morton_Interleave.calls kj21 a0 a1 t120 _ A32.out).mono ?_); rintro e w' ⟨rfl, ⟨nd, rfl⟩⟩; (try first | exact ⟨rfl, _, World.drewN_drewN _ _ _⟩ | exact ⟨rfl, _, Eq.trans (World.drewN_drewN _ _ _) (congrArg (World.drewN _) (Nat.add_assoc _ _ _))⟩)) | (go_at_call 22; (with_reducible refine (vernierlaw16_spread.calls kj21 a0 a1 t121 _ A33.out).mono ?_); rintro e w' ⟨rfl, ⟨nd, rfl⟩⟩; (try first | exact ⟨rfl, _, World.drewN_drewN _ _ _⟩ | exact ⟨rfl, _, Eq.trans (World.drewN_drewN _ _ _) (congrArg (World.drewN _) (Nat.add_assoc _ _ _))⟩)) | (go_at_call 13; (with_reducible refine (morton_Index.calls kj21 a0 a1 a2 t122 _ A35.out).mono ?_); rintro e w' ⟨rfl, ⟨nd, rfl⟩⟩; (try first | exact ⟨rfl, _, World.drewN_drewN _ _ _⟩ | exact ⟨rfl, _, Eq.trans (World.drewN_drewN _ _ _) (congrArg (World.drewN _) (Nat.add_assoc _ _ _))⟩))))
                      go_ret
                      exact ⟨by first | rfl | (simp [errW_none, errW_some] <;> rfl) | (simp [*, errW_none, errW_some] <;> rfl), by repeat (first | (with_reducible first | exact HB.out | apply below_alloc | apply pw_below_drewN | apply below_drew1) | exact HB.out)⟩
                  · rw [if_neg c34] at H
                    have c34b0 : (t120 == t121) = false := beq_eq_false_iff_ne.mpr c34
                    have c34b1 : (t120 != t121) = true := bne_iff_ne.mpr c34
                    obtain rfl := Option.some.inj H
                    go_wp2_with (first | (go_at_call 26; (with_reducible refine (morton_Apart.calls kj21 a5 t118 t119 _ A31.out).mono ?_); rintro e w' ⟨rfl, ⟨nd, rfl⟩⟩; (try first | exact ⟨rfl, _, World.drewN_drewN _ _ _⟩ | exact ⟨rfl, _, Eq.trans (World.drewN_drewN _ _ _) (congrArg (World.drewN _) (Nat.add_assoc _ _ _))⟩)) | (go_at_call 27; (with_reducible refine (morton_Interleave.calls kj21 a0 a1 t120 _ A32.out).mono ?_); rintro e w' ⟨rfl, ⟨nd, rfl⟩⟩; (try first | exact ⟨rfl, _, World.drewN_drewN _ _ _⟩ | exact ⟨rfl, _, Eq.trans (World.drewN_drewN _ _ _) (congrArg (World.drewN _) (Nat.add_assoc _ _ _))⟩)) | (go_at_call 22; (with_reducible refine (vernierlaw16_spread.calls kj21 a0 a1 t121 _ A33.out).mono ?_); rintro e w' ⟨rfl, ⟨nd, rfl⟩⟩; (try first | exact ⟨rfl, _, World.drewN_drewN _ _ _⟩ | exact ⟨rfl, _, Eq.trans (World.drewN_drewN _ _ _) (congrArg (World.drewN _) (Nat.add_assoc _ _ _))⟩)))
                    repeat (go_quiet (first | (go_at_call 26; (with_reducible refine (morton_Apart.calls kj21 a5 t118 t119 _ A31.out).mono ?_); rintro e w' ⟨rfl, ⟨nd, rfl⟩⟩; (try first | exact ⟨rfl, _, World.drewN_drewN _ _ _⟩ | exact ⟨rfl, _, Eq.trans (World.drewN_drewN _ _ _) (congrArg (World.drewN _) (Nat.add_assoc _ _ _))⟩)) | (go_at_call 27; (with_reducible refine (morton_Interleave.calls kj21 a0 a1 t120 _ A32.out).mono ?_); rintro e w' ⟨rfl, ⟨nd, rfl⟩⟩; (try first | exact ⟨rfl, _, World.drewN_drewN _ _ _⟩ | exact ⟨rfl, _, Eq.trans (World.drewN_drewN _ _ _) (congrArg (World.drewN _) (Nat.add_assoc _ _ _))⟩)) | (go_at_call 22; (with_reducible refine (vernierlaw16_spread.calls kj21 a0 a1 t121 _ A33.out).mono ?_); rintro e w' ⟨rfl, ⟨nd, rfl⟩⟩; (try first | exact ⟨rfl, _, World.drewN_drewN _ _ _⟩ | exact ⟨rfl, _, Eq.trans (World.drewN_drewN _ _ _) (congrArg (World.drewN _) (Nat.add_assoc _ _ _))⟩))); try go_wp2_with (first | (go_at_call 26; (with_reducible refine (morton_Apart.calls kj21 a5 t118 t119 _ A31.out).mono ?_); rintro e w' ⟨rfl, ⟨nd, rfl⟩⟩; (try first | exact ⟨rfl, _, World.drewN_drewN _ _ _⟩ | exact ⟨rfl, _, Eq.trans (World.drewN_drewN _ _ _) (congrArg (World.drewN _) (Nat.add_assoc _ _ _))⟩)) | (go_at_call 27; (with_reducible refine (morton_Interleave.calls kj21 a0 a1 t120 _ A32.out).mono ?_); rintro e w' ⟨rfl, ⟨nd, rfl⟩⟩; (try first | exact ⟨rfl, _, World.drewN_drewN _ _ _⟩ | exact ⟨rfl, _, Eq.trans (World.drewN_drewN _ _ _) (congrArg (World.drewN _) (Nat.add_assoc _ _ _))⟩)) | (go_at_call 22; (with_reducible refine (vernierlaw16_spread.calls kj21 a0 a1 t121 _ A33.out).mono ?_); rintro e w' ⟨rfl, ⟨nd, rfl⟩⟩; (try first | exact ⟨rfl, _, World.drewN_drewN _ _ _⟩ | exact ⟨rfl, _, Eq.trans (World.drewN_drewN _ _ _) (congrArg (World.drewN _) (Nat.add_assoc _ _ _))⟩))))
                    go_ret
                    exact ⟨by first | rfl | (simp [errW_none, errW_some] <;> rfl) | (simp [*, errW_none, errW_some] <;> rfl), by repeat (first | (with_reducible first | exact HB.out | apply below_alloc | apply pw_below_drewN | apply below_drew1) | exact HB.out)⟩
  · replace c8 := Bool.eq_false_iff.mpr c8
    subst c8
    have H1 : (some false) = some r := by rw [if_neg (show ¬ (false = true) by decide)] at H; exact H
    clear H
    have H := H1
    clear H1
    obtain rfl := Option.some.inj H
    go_enter Try.func6, Try.ntmps6
    go_wp2_with (first | (go_at_call 12; (with_reducible refine (vernierlaw16_alive.calls k  false _ A7.out).mono ?_); rintro e w' ⟨rfl, ⟨nd, rfl⟩⟩; (try first | exact ⟨rfl, _, World.drewN_drewN _ _ _⟩ | exact ⟨rfl, _, Eq.trans (World.drewN_drewN _ _ _) (congrArg (World.drewN _) (Nat.add_assoc _ _ _))⟩)))
    repeat (go_quiet (first | (go_at_call 12; (with_reducible refine (vernierlaw16_alive.calls k  false _ A7.out).mono ?_); rintro e w' ⟨rfl, ⟨nd, rfl⟩⟩; (try first | exact ⟨rfl, _, World.drewN_drewN _ _ _⟩ | exact ⟨rfl, _, Eq.trans (World.drewN_drewN _ _ _) (congrArg (World.drewN _) (Nat.add_assoc _ _ _))⟩))); try go_wp2_with (first | (go_at_call 12; (with_reducible refine (vernierlaw16_alive.calls k  false _ A7.out).mono ?_); rintro e w' ⟨rfl, ⟨nd, rfl⟩⟩; (try first | exact ⟨rfl, _, World.drewN_drewN _ _ _⟩ | exact ⟨rfl, _, Eq.trans (World.drewN_drewN _ _ _) (congrArg (World.drewN _) (Nat.add_assoc _ _ _))⟩))))
    go_ret
    exact ⟨by first | rfl | (simp [errW_none, errW_some] <;> rfl) | (simp [*, errW_none, errW_some] <;> rfl), by repeat (first | (with_reducible first | exact HB.out | apply below_alloc | apply pw_below_drewN | apply below_drew1) | exact HB.out)⟩

/-- THE ONE PURE STATEMENT of vernierlaw16_MortonTells: yours. -/
def vernierlaw16_MortonTells.Pure : Prop := ∀ (a0 : Int) (a1 : Int) (a2 : Int) (a3 : Int) (a4 : Int) (a5 : Int), (Lit.int .i64 a0).wf = true → (Lit.int .i64 a1).wf = true → (Lit.int .i64 a2).wf = true → (Lit.int .i64 a3).wf = true → (Lit.int .i64 a4).wf = true → (Lit.int .i64 a5).wf = true → ∃ k, vernierlaw16_MortonTells.f k a0 a1 a2 a3 a4 a5 = some true
theorem vernierlaw16_MortonTells.walk (P : vernierlaw16_MortonTells.Pure) (a0 : Int) (a1 : Int) (a2 : Int) (a3 : Int) (a4 : Int) (a5 : Int) (w : World) (w0 : (Lit.int .i64 a0).wf = true) (w1 : (Lit.int .i64 a1).wf = true) (w2 : (Lit.int .i64 a2).wf = true) (w3 : (Lit.int .i64 a3).wf = true) (w4 : (Lit.int .i64 a4).wf = true) (w5 : (Lit.int .i64 a5).wf = true) :
    Calls Try.prog 6 #[.int .i64 a0, .int .i64 a1, .int .i64 a2, .int .i64 a3, .int .i64 a4, .int .i64 a5] w fun e w' => e = .returned (.bool true) ∧ Below w.heap.size w w' := by
  obtain ⟨k, h⟩ := P a0 a1 a2 a3 a4 a5 w0 w1 w2 w3 w4 w5
  refine (vernierlaw16_MortonTells.calls k a0 a1 a2 a3 a4 a5 true w h).mono ?_
  rintro e w' ⟨rfl, hd⟩
  exact ⟨rfl, hd⟩

end Go.Proofs.Ytdkmmelbadcpjaa.PMortonTells
