-- PRINTED by print.py (a twelfth state) out of the translation. Not trusted: Lean checks it.
import Derived.Test.YtklkebbdjppnkaaPFsqrtNearx0
import Derived.Test.YtklkebbdjppnkaaPFsqrtNearx4
import Derived.Test.YtklkebbdjppnkaaPFsqrtNearx5
import Derived.Test.YtklkebbdjppnkaaPFsqrtNearx6
namespace Go.Proofs.Ytklkebbdjppnkaa.PFsqrtNear
open Go.RowKit Go.Proofs.YtklkebbdjppnkaaW.PrintWords Go.Proofs.YtklkebbdjppnkaaW.PrintLast Go.Proofs.YtklkebbdjppnkaaW.PrintMore
attribute [local go_sem] max2_int min2_int max_two min_two max_three min_three max_four min_four   -- for this text's walks alone
set_option linter.unusedVariables false
set_option linter.unusedSimpArgs false

/-! ### vernierref06_Round: function 27 -/
mutual
def vernierref06_Round.j0 : Nat → Bool → List Int → List Int → Int → Int → Int → Option (Int × Int)
  | 0, _, _, _, _, _, _ => none
  | k + 1, x0, x1, x2, x3, x4, x13 => vernierref06_Round.l0 k x0 x1 x2 x3 x4 x13 0 ([] : List Int) ([] : List Int) 0
def vernierref06_Round.l0 : Nat → Bool → List Int → List Int → Int → Int → Int → Int → List Int → List Int → Int → Option (Int × Int)
  | 0, _, _, _, _, _, _, _, _, _, _ => none
  | k + 1, x0, x1, x2, x3, x4, x13, x14, x15, x16, x17 => if x17 < 9 then (if x17 = 0 then (vernierref06_Round.j2 k x0 x1 x2 x3 x4 x13 x14 x15 x16 x17 true) else (vernierref06_Round.j2 k x0 x1 x2 x3 x4 x13 x14 x15 x16 x17 (decide (x14 ≥ 9007199254740992)))) else (vernierref06_Round.j2 k x0 x1 x2 x3 x4 x13 x14 x15 x16 x17 false)
def vernierref06_Round.j2 : Nat → Bool → List Int → List Int → Int → Int → Int → Int → List Int → List Int → Int → Bool → Option (Int × Int)
  | 0, _, _, _, _, _, _, _, _, _, _, _ => none
  | k + 1, x0, x1, x2, x3, x4, x13, x14, x15, x16, x17, x57 => if x57 = true then (if x17 > 0 then ((vernierref06_shift.f k x1 x2 (wrap64 (x3 - (wrap64 (x13 + 1))))).bind fun bt240 => ((vernierref01_Few.f k bt240.1 bt240.2).bind fun bt246 => (vernierref06_Round.l0 k x0 x1 x2 x3 x4 (wrap64 (x13 + 1)) bt246.1 bt246.2 bt240.2 (wrap64 (x17 + 1))))) else ((vernierref06_shift.f k x1 x2 (wrap64 (x3 - x13))).bind fun bt250 => ((vernierref01_Few.f k bt250.1 bt250.2).bind fun bt256 => (vernierref06_Round.l0 k x0 x1 x2 x3 x4 x13 bt256.1 bt256.2 bt250.2 (wrap64 (x17 + 1)))))) else ((vernierref06_shift.f k x1 x2 (wrap64 (x3 + 1022))).bind fun bt260 => ((vernierref01_Cmp.f k bt260.1 bt260.2).bind fun t266 => ((vernierref01_Shl.f k x15 1).bind fun t267 => ((vernierref01_Cmp.f k t267 x16).bind fun t270 => (if x4 = 1 then (vernierref06_Round.j3 k x0 x4 x13 x14 (decide ((x15.length : Int) > 0)) (decide (t266 < 0)) (decide (t270 ≥ 0))) else (if x4 = 2 then (vernierref06_Round.j3 k x0 x4 x13 x14 (decide ((x15.length : Int) > 0)) (decide (t266 < 0)) false) else (if x4 = 3 then (if (x15.length : Int) > 0 then (vernierref06_Round.j3 k x0 x4 x13 x14 (decide ((x15.length : Int) > 0)) (decide (t266 < 0)) (!x0)) else (vernierref06_Round.j3 k x0 x4 x13 x14 (decide ((x15.length : Int) > 0)) (decide (t266 < 0)) false)) else (if x4 = 4 then (if (x15.length : Int) > 0 then (vernierref06_Round.j3 k x0 x4 x13 x14 (decide ((x15.length : Int) > 0)) (decide (t266 < 0)) x0) else (vernierref06_Round.j3 k x0 x4 x13 x14 (decide ((x15.length : Int) > 0)) (decide (t266 < 0)) false)) else (if t270 > 0 then (vernierref06_Round.j3 k x0 x4 x13 x14 (decide ((x15.length : Int) > 0)) (decide (t266 < 0)) true) else (if t270 = 0 then (vernierref06_Round.j3 k x0 x4 x13 x14 (decide ((x15.length : Int) > 0)) (decide (t266 < 0)) ((Int.tmod x14 2) == 1)) else (vernierref06_Round.j3 k x0 x4 x13 x14 (decide ((x15.length : Int) > 0)) (decide (t266 < 0)) false)))))))))))
def vernierref06_Round.j3 : Nat → Bool → Int → Int → Int → Bool → Bool → Bool → Option (Int × Int)
  | 0, _, _, _, _, _, _, _ => none
  | k + 1, x0, x4, x13, x14, x20, x23, x25 => if x25 = true then (vernierref06_Round.j4 k x0 x4 x13 (IntKind.u64.wrap (x14 + 1)) x20 x23) else (vernierref06_Round.j4 k x0 x4 x13 x14 x20 x23)
def vernierref06_Round.j4 : Nat → Bool → Int → Int → Int → Bool → Bool → Option (Int × Int)
  | 0, _, _, _, _, _, _ => none
  | k + 1, x0, x4, x13, x14, x20, x23 => if x20 = true then (if x23 = true then (vernierref06_Round.j5 k x0 x4 x13 x14 24) else (vernierref06_Round.j5 k x0 x4 x13 x14 16)) else (vernierref06_Round.j5 k x0 x4 x13 x14 0)
def vernierref06_Round.j5 : Nat → Bool → Int → Int → Int → Int → Option (Int × Int)
  | 0, _, _, _, _, _ => none
  | k + 1, x0, x4, x13, x14, x26 => if x14 ≥ 9007199254740992 then (vernierref06_Round.j6 k x0 x4 (wrap64 (x13 + 1)) (IntKind.u64.wrap (Int.tdiv x14 2)) x26) else (vernierref06_Round.j6 k x0 x4 x13 x14 x26)
def vernierref06_Round.j6 : Nat → Bool → Int → Int → Int → Int → Option (Int × Int)
  | 0, _, _, _, _, _ => none
  | k + 1, x0, x4, x13, x14, x26 => if x14 ≥ 4503599627370496 then (vernierref06_Round.j7 k x0 x4 x13 x14 x26 (decide (x13 > 971))) else (vernierref06_Round.j7 k x0 x4 x13 x14 x26 false)
def vernierref06_Round.j7 : Nat → Bool → Int → Int → Int → Int → Bool → Option (Int × Int)
  | 0, _, _, _, _, _, _ => none
  | k + 1, x0, x4, x13, x14, x26, x146 => if x146 = true then ((vernierref06_big.f k x0 x4).bind fun bt271 => (some (bt271.1, bt271.2))) else (if x14 < 4503599627370496 then ((vernierref06_Zero.f x0).bind fun t273 => (some (IntKind.u64.wrap (t273 + x14), x26))) else ((vernierref06_Zero.f x0).bind fun t274 => (some (IntKind.u64.wrap ((IntKind.u64.wrap ((IntKind.u64.wrap (t274 + (IntKind.u64.wrap ((IntKind.u64.wrap (wrap64 (x13 + 1075))) * 4503599627370496)))) + x14)) - 4503599627370496), x26))))
end
def vernierref06_Round.f (k : Nat) (a0 : Bool) (l1 : List Int) (l2 : List Int) (a3 : Int) (a4 : Int) : Option (Int × Int) := (vernierref01_Bits.f k l1).bind fun t230 => ((vernierref01_Bits.f k l2).bind fun t231 => (if (wrap64 ((wrap64 (t230 - t231)) + a3)) > 2000 then ((vernierref06_big.f k a0 a4).bind fun bt232 => (some (bt232.1, bt232.2))) else (if (wrap64 ((wrap64 (t230 - t231)) + a3)) < (-3000) then (vernierref06_Round.j0 k a0 (([1] : List Int)) (([1] : List Int)) (-3000) a4 (-1074)) else (vernierref06_Round.j0 k a0 l1 l2 a3 a4 (mx (wrap64 ((wrap64 ((wrap64 (t230 - t231)) + a3)) - 54)) (-1074))))))
theorem vernierref06_Round.mono_l : ∀ k, (∀ y0 y1 y2 y3 y4 y5, LeO (vernierref06_Round.j0 k y0 y1 y2 y3 y4 y5) (vernierref06_Round.j0 (k + 1) y0 y1 y2 y3 y4 y5)) ∧ (∀ y0 y1 y2 y3 y4 y5 y6 y7 y8 y9, LeO (vernierref06_Round.l0 k y0 y1 y2 y3 y4 y5 y6 y7 y8 y9) (vernierref06_Round.l0 (k + 1) y0 y1 y2 y3 y4 y5 y6 y7 y8 y9)) ∧ (∀ y0 y1 y2 y3 y4 y5 y6 y7 y8 y9 y10, LeO (vernierref06_Round.j2 k y0 y1 y2 y3 y4 y5 y6 y7 y8 y9 y10) (vernierref06_Round.j2 (k + 1) y0 y1 y2 y3 y4 y5 y6 y7 y8 y9 y10)) ∧ (∀ y0 y1 y2 y3 y4 y5 y6, LeO (vernierref06_Round.j3 k y0 y1 y2 y3 y4 y5 y6) (vernierref06_Round.j3 (k + 1) y0 y1 y2 y3 y4 y5 y6)) ∧ (∀ y0 y1 y2 y3 y4 y5, LeO (vernierref06_Round.j4 k y0 y1 y2 y3 y4 y5) (vernierref06_Round.j4 (k + 1) y0 y1 y2 y3 y4 y5)) ∧ (∀ y0 y1 y2 y3 y4, LeO (vernierref06_Round.j5 k y0 y1 y2 y3 y4) (vernierref06_Round.j5 (k + 1) y0 y1 y2 y3 y4)) ∧ (∀ y0 y1 y2 y3 y4, LeO (vernierref06_Round.j6 k y0 y1 y2 y3 y4) (vernierref06_Round.j6 (k + 1) y0 y1 y2 y3 y4)) ∧ (∀ y0 y1 y2 y3 y4 y5, LeO (vernierref06_Round.j7 k y0 y1 y2 y3 y4 y5) (vernierref06_Round.j7 (k + 1) y0 y1 y2 y3 y4 y5))
  | 0 => ⟨fun _ _ _ _ _ _ r h => by simp [vernierref06_Round.j0] at h, fun _ _ _ _ _ _ _ _ _ _ r h => by simp [vernierref06_Round.l0] at h, fun _ _ _ _ _ _ _ _ _ _ _ r h => by simp [vernierref06_Round.j2] at h, fun _ _ _ _ _ _ _ r h => by simp [vernierref06_Round.j3] at h, fun _ _ _ _ _ _ r h => by simp [vernierref06_Round.j4] at h, fun _ _ _ _ _ r h => by simp [vernierref06_Round.j5] at h, fun _ _ _ _ _ r h => by simp [vernierref06_Round.j6] at h, fun _ _ _ _ _ _ r h => by simp [vernierref06_Round.j7] at h⟩
  | k + 1 => by
    obtain ⟨ih0, ih1, ih2, ih3, ih4, ih5, ih6, ih7⟩ := vernierref06_Round.mono_l k
    refine ⟨?_, ?_, ?_, ?_, ?_, ?_, ?_, ?_⟩
    · intro y0 y1 y2 y3 y4 y5
      unfold vernierref06_Round.j0
      repeat' first
      | (with_reducible exact ih0 _ _ _ _ _ _)
      | (with_reducible exact ih1 _ _ _ _ _ _ _ _ _ _)
      | (with_reducible exact ih2 _ _ _ _ _ _ _ _ _ _ _)
      | (with_reducible exact ih3 _ _ _ _ _ _ _)
      | (with_reducible exact ih4 _ _ _ _ _ _)
      | (with_reducible exact ih5 _ _ _ _ _)
      | (with_reducible exact ih6 _ _ _ _ _)
      | (with_reducible exact ih7 _ _ _ _ _ _)
      | (with_reducible exact vernierref01_Bits.mono _ _)
      | (with_reducible exact vernierref01_Cmp.mono _ _ _)
      | (with_reducible exact vernierref01_Few.mono _ _ _)
      | (with_reducible exact vernierref01_Shl.mono _ _ _)
      | (with_reducible exact vernierref06_big.mono _ _ _)
      | (with_reducible exact vernierref06_shift.mono _ _ _ _)
      | (with_reducible exact LeO.refl _)
      | (with_reducible exact LeO.none _)
      | (with_reducible refine LeO.ite ?_ ?_)
      | (with_reducible refine LeO.bind ?_ (fun _ => ?_))
      | exact ih0 _ _ _ _ _ _
      | exact ih1 _ _ _ _ _ _ _ _ _ _
      | exact ih2 _ _ _ _ _ _ _ _ _ _ _
      | exact ih3 _ _ _ _ _ _ _
      | exact ih4 _ _ _ _ _ _
      | exact ih5 _ _ _ _ _
      | exact ih6 _ _ _ _ _
      | exact ih7 _ _ _ _ _ _
      | exact vernierref01_Bits.mono _ _
      | exact vernierref01_Cmp.mono _ _ _
      | exact vernierref01_Few.mono _ _ _
      | exact vernierref01_Shl.mono _ _ _
      | exact vernierref06_big.mono _ _ _
      | exact vernierref06_shift.mono _ _ _ _
      | exact LeO.none _
      | refine LeO.ite ?_ ?_
      | refine LeO.bind ?_ (fun _ => ?_)
    · intro y0 y1 y2 y3 y4 y5 y6 y7 y8 y9
      unfold vernierref06_Round.l0
      repeat' first
      | (with_reducible exact ih0 _ _ _ _ _ _)
      | (with_reducible exact ih1 _ _ _ _ _ _ _ _ _ _)
      | (with_reducible exact ih2 _ _ _ _ _ _ _ _ _ _ _)
      | (with_reducible exact ih3 _ _ _ _ _ _ _)
      | (with_reducible exact ih4 _ _ _ _ _ _)
      | (with_reducible exact ih5 _ _ _ _ _)
      | (with_reducible exact ih6 _ _ _ _ _)
      | (with_reducible exact ih7 _ _ _ _ _ _)
      | (with_reducible exact vernierref01_Bits.mono _ _)
      | (with_reducible exact vernierref01_Cmp.mono _ _ _)
      | (with_reducible exact vernierref01_Few.mono _ _ _)
      | (with_reducible exact vernierref01_Shl.mono _ _ _)
      | (with_reducible exact vernierref06_big.mono _ _ _)
      | (with_reducible exact vernierref06_shift.mono _ _ _ _)
      | (with_reducible exact LeO.refl _)
      | (with_reducible exact LeO.none _)
      | (with_reducible refine LeO.ite ?_ ?_)
      | (with_reducible refine LeO.bind ?_ (fun _ => ?_))
      | exact ih0 _ _ _ _ _ _
      | exact ih1 _ _ _ _ _ _ _ _ _ _
      | exact ih2 _ _ _ _ _ _ _ _ _ _ _
      | exact ih3 _ _ _ _ _ _ _
      | exact ih4 _ _ _ _ _ _
      | exact ih5 _ _ _ _ _
      | exact ih6 _ _ _ _ _
      | exact ih7 _ _ _ _ _ _
      | exact vernierref01_Bits.mono _ _
      | exact vernierref01_Cmp.mono _ _ _
      | exact vernierref01_Few.mono _ _ _
      | exact vernierref01_Shl.mono _ _ _
      | exact vernierref06_big.mono _ _ _
      | exact vernierref06_shift.mono _ _ _ _
      | exact LeO.none _
      | refine LeO.ite ?_ ?_
      | refine LeO.bind ?_ (fun _ => ?_)
    · intro y0 y1 y2 y3 y4 y5 y6 y7 y8 y9 y10
      unfold vernierref06_Round.j2
      repeat' first
      | (with_reducible exact ih0 _ _ _ _ _ _)
      | (with_reducible exact ih1 _ _ _ _ _ _ _ _ _ _)
      | (with_reducible exact ih2 _ _ _ _ _ _ _ _ _ _ _)
      | (with_reducible exact ih3 _ _ _ _ _ _ _)
      | (with_reducible exact ih4 _ _ _ _ _ _)
      | (with_reducible exact ih5 _ _ _ _ _)
      | (with_reducible exact ih6 _ _ _ _ _)
      | (with_reducible exact ih7 _ _ _ _ _ _)
      | (with_reducible exact vernierref01_Bits.mono _ _)
      | (with_reducible exact vernierref01_Cmp.mono _ _ _)
      | (with_reducible exact vernierref01_Few.mono _ _ _)
      | (with_reducible exact vernierref01_Shl.mono _ _ _)
      | (with_reducible exact vernierref06_big.mono _ _ _)
      | (with_reducible exact vernierref06_shift.mono _ _ _ _)
      | (with_reducible exact LeO.refl _)
      | (with_reducible exact LeO.none _)
      | (with_reducible refine LeO.ite ?_ ?_)
      | (with_reducible refine LeO.bind ?_ (fun _ => ?_))
      | exact ih0 _ _ _ _ _ _
      | exact ih1 _ _ _ _ _ _ _ _ _ _
      | exact ih2 _ _ _ _ _ _ _ _ _ _ _
      | exact ih3 _ _ _ _ _ _ _
      | exact ih4 _ _ _ _ _ _
      | exact ih5 _ _ _ _ _
      | exact ih6 _ _ _ _ _
      | exact ih7 _ _ _ _ _ _
      | exact vernierref01_Bits.mono _ _
      | exact vernierref01_Cmp.mono _ _ _
      | exact vernierref01_Few.mono _ _ _
      | exact vernierref01_Shl.mono _ _ _
      | exact vernierref06_big.mono _ _ _
      | exact vernierref06_shift.mono _ _ _ _
      | exact LeO.none _
      | refine LeO.ite ?_ ?_
      | refine LeO.bind ?_ (fun _ => ?_)
    · intro y0 y1 y2 y3 y4 y5 y6
      unfold vernierref06_Round.j3
      repeat' first
      | (with_reducible exact ih0 _ _ _ _ _ _)
      | (with_reducible exact ih1 _ _ _ _ _ _ _ _ _ _)
      | (with_reducible exact ih2 _ _ _ _ _ _ _ _ _ _ _)
      | (with_reducible exact ih3 _ _ _ _ _ _ _)
      | (with_reducible exact ih4 _ _ _ _ _ _)
      | (with_reducible exact ih5 _ _ _ _ _)
      | (with_reducible exact ih6 _ _ _ _ _)
      | (with_reducible exact ih7 _ _ _ _ _ _)
      | (with_reducible exact vernierref01_Bits.mono _ _)
      | (with_reducible exact vernierref01_Cmp.mono _ _ _)
      | (with_reducible exact vernierref01_Few.mono _ _ _)
      | (with_reducible exact vernierref01_Shl.mono _ _ _)
      | (with_reducible exact vernierref06_big.mono _ _ _)
      | (with_reducible exact vernierref06_shift.mono _ _ _ _)
      | (with_reducible exact LeO.refl _)
      | (with_reducible exact LeO.none _)
      | (with_reducible refine LeO.ite ?_ ?_)
      | (with_reducible refine LeO.bind ?_ (fun _ => ?_))
      | exact ih0 _ _ _ _ _ _
      | exact ih1 _ _ _ _ _ _ _ _ _ _
      | exact ih2 _ _ _ _ _ _ _ _ _ _ _
      | exact ih3 _ _ _ _ _ _ _
      | exact ih4 _ _ _ _ _ _
      | exact ih5 _ _ _ _ _
      | exact ih6 _ _ _ _ _
      | exact ih7 _ _ _ _ _ _
      | exact vernierref01_Bits.mono _ _
      | exact vernierref01_Cmp.mono _ _ _
      | exact vernierref01_Few.mono _ _ _
      | exact vernierref01_Shl.mono _ _ _
      | exact vernierref06_big.mono _ _ _
      | exact vernierref06_shift.mono _ _ _ _
      | exact LeO.none _
      | refine LeO.ite ?_ ?_
      | refine LeO.bind ?_ (fun _ => ?_)
    · intro y0 y1 y2 y3 y4 y5
      unfold vernierref06_Round.j4
      repeat' first
      | (with_reducible exact ih0 _ _ _ _ _ _)
      | (with_reducible exact ih1 _ _ _ _ _ _ _ _ _ _)
      | (with_reducible exact ih2 _ _ _ _ _ _ _ _ _ _ _)
      | (with_reducible exact ih3 _ _ _ _ _ _ _)
      | (with_reducible exact ih4 _ _ _ _ _ _)
      | (with_reducible exact ih5 _ _ _ _ _)
      | (with_reducible exact ih6 _ _ _ _ _)
      | (with_reducible exact ih7 _ _ _ _ _ _)
      | (with_reducible exact vernierref01_Bits.mono _ _)
      | (with_reducible exact vernierref01_Cmp.mono _ _ _)
      | (with_reducible exact vernierref01_Few.mono _ _ _)
      | (with_reducible exact vernierref01_Shl.mono _ _ _)
      | (with_reducible exact vernierref06_big.mono _ _ _)
      | (with_reducible exact vernierref06_shift.mono _ _ _ _)
      | (with_reducible exact LeO.refl _)
      | (with_reducible exact LeO.none _)
      | (with_reducible refine LeO.ite ?_ ?_)
      | (with_reducible refine LeO.bind ?_ (fun _ => ?_))
      | exact ih0 _ _ _ _ _ _
      | exact ih1 _ _ _ _ _ _ _ _ _ _
      | exact ih2 _ _ _ _ _ _ _ _ _ _ _
      | exact ih3 _ _ _ _ _ _ _
      | exact ih4 _ _ _ _ _ _
      | exact ih5 _ _ _ _ _
      | exact ih6 _ _ _ _ _
      | exact ih7 _ _ _ _ _ _
      | exact vernierref01_Bits.mono _ _
      | exact vernierref01_Cmp.mono _ _ _
      | exact vernierref01_Few.mono _ _ _
      | exact vernierref01_Shl.mono _ _ _
      | exact vernierref06_big.mono _ _ _
      | exact vernierref06_shift.mono _ _ _ _
      | exact LeO.none _
      | refine LeO.ite ?_ ?_
      | refine LeO.bind ?_ (fun _ => ?_)
    · intro y0 y1 y2 y3 y4
      unfold vernierref06_Round.j5
      repeat' first
      | (with_reducible exact ih0 _ _ _ _ _ _)
      | (with_reducible exact ih1 _ _ _ _ _ _ _ _ _ _)
      | (with_reducible exact ih2 _ _ _ _ _ _ _ _ _ _ _)
      | (with_reducible exact ih3 _ _ _ _ _ _ _)
      | (with_reducible exact ih4 _ _ _ _ _ _)
      | (with_reducible exact ih5 _ _ _ _ _)
      | (with_reducible exact ih6 _ _ _ _ _)
      | (with_reducible exact ih7 _ _ _ _ _ _)
      | (with_reducible exact vernierref01_Bits.mono _ _)
      | (with_reducible exact vernierref01_Cmp.mono _ _ _)
      | (with_reducible exact vernierref01_Few.mono _ _ _)
      | (with_reducible exact vernierref01_Shl.mono _ _ _)
      | (with_reducible exact vernierref06_big.mono _ _ _)
      | (with_reducible exact vernierref06_shift.mono _ _ _ _)
      | (with_reducible exact LeO.refl _)
      | (with_reducible exact LeO.none _)
      | (with_reducible refine LeO.ite ?_ ?_)
      | (with_reducible refine LeO.bind ?_ (fun _ => ?_))
      | exact ih0 _ _ _ _ _ _
      | exact ih1 _ _ _ _ _ _ _ _ _ _
      | exact ih2 _ _ _ _ _ _ _ _ _ _ _
      | exact ih3 _ _ _ _ _ _ _
      | exact ih4 _ _ _ _ _ _
      | exact ih5 _ _ _ _ _
      | exact ih6 _ _ _ _ _
      | exact ih7 _ _ _ _ _ _
      | exact vernierref01_Bits.mono _ _
      | exact vernierref01_Cmp.mono _ _ _
      | exact vernierref01_Few.mono _ _ _
      | exact vernierref01_Shl.mono _ _ _
      | exact vernierref06_big.mono _ _ _
      | exact vernierref06_shift.mono _ _ _ _
      | exact LeO.none _
      | refine LeO.ite ?_ ?_
      | refine LeO.bind ?_ (fun _ => ?_)
    · intro y0 y1 y2 y3 y4
      unfold vernierref06_Round.j6
      repeat' first
      | (with_reducible exact ih0 _ _ _ _ _ _)
      | (with_reducible exact ih1 _ _ _ _ _ _ _ _ _ _)
      | (with_reducible exact ih2 _ _ _ _ _ _ _ _ _ _ _)
      | (with_reducible exact ih3 _ _ _ _ _ _ _)
      | (with_reducible exact ih4 _ _ _ _ _ _)
      | (with_reducible exact ih5 _ _ _ _ _)
      | (with_reducible exact ih6 _ _ _ _ _)
      | (with_reducible exact ih7 _ _ _ _ _ _)
      | (with_reducible exact vernierref01_Bits.mono _ _)
      | (with_reducible exact vernierref01_Cmp.mono _ _ _)
      | (with_reducible exact vernierref01_Few.mono _ _ _)
      | (with_reducible exact vernierref01_Shl.mono _ _ _)
      | (with_reducible exact vernierref06_big.mono _ _ _)
      | (with_reducible exact vernierref06_shift.mono _ _ _ _)
      | (with_reducible exact LeO.refl _)
      | (with_reducible exact LeO.none _)
      | (with_reducible refine LeO.ite ?_ ?_)
      | (with_reducible refine LeO.bind ?_ (fun _ => ?_))
      | exact ih0 _ _ _ _ _ _
      | exact ih1 _ _ _ _ _ _ _ _ _ _
      | exact ih2 _ _ _ _ _ _ _ _ _ _ _
      | exact ih3 _ _ _ _ _ _ _
      | exact ih4 _ _ _ _ _ _
      | exact ih5 _ _ _ _ _
      | exact ih6 _ _ _ _ _
      | exact ih7 _ _ _ _ _ _
      | exact vernierref01_Bits.mono _ _
      | exact vernierref01_Cmp.mono _ _ _
      | exact vernierref01_Few.mono _ _ _
      | exact vernierref01_Shl.mono _ _ _
      | exact vernierref06_big.mono _ _ _
      | exact vernierref06_shift.mono _ _ _ _
      | exact LeO.none _
      | refine LeO.ite ?_ ?_
      | refine LeO.bind ?_ (fun _ => ?_)
    · intro y0 y1 y2 y3 y4 y5
      unfold vernierref06_Round.j7
      repeat' first
      | (with_reducible exact ih0 _ _ _ _ _ _)
      | (with_reducible exact ih1 _ _ _ _ _ _ _ _ _ _)
      | (with_reducible exact ih2 _ _ _ _ _ _ _ _ _ _ _)
      | (with_reducible exact ih3 _ _ _ _ _ _ _)
      | (with_reducible exact ih4 _ _ _ _ _ _)
      | (with_reducible exact ih5 _ _ _ _ _)
      | (with_reducible exact ih6 _ _ _ _ _)
      | (with_reducible exact ih7 _ _ _ _ _ _)
      | (with_reducible exact vernierref01_Bits.mono _ _)
      | (with_reducible exact vernierref01_Cmp.mono _ _ _)
      | (with_reducible exact vernierref01_Few.mono _ _ _)
      | (with_reducible exact vernierref01_Shl.mono _ _ _)
      | (with_reducible exact vernierref06_big.mono _ _ _)
      | (with_reducible exact vernierref06_shift.mono _ _ _ _)
      | (with_reducible exact LeO.refl _)
      | (with_reducible exact LeO.none _)
      | (with_reducible refine LeO.ite ?_ ?_)
      | (with_reducible refine LeO.bind ?_ (fun _ => ?_))
      | exact ih0 _ _ _ _ _ _
      | exact ih1 _ _ _ _ _ _ _ _ _ _
      | exact ih2 _ _ _ _ _ _ _ _ _ _ _
      | exact ih3 _ _ _ _ _ _ _
      | exact ih4 _ _ _ _ _ _
      | exact ih5 _ _ _ _ _
      | exact ih6 _ _ _ _ _
      | exact ih7 _ _ _ _ _ _
      | exact vernierref01_Bits.mono _ _
      | exact vernierref01_Cmp.mono _ _ _
      | exact vernierref01_Few.mono _ _ _
      | exact vernierref01_Shl.mono _ _ _
      | exact vernierref06_big.mono _ _ _
      | exact vernierref06_shift.mono _ _ _ _
      | exact LeO.none _
      | refine LeO.ite ?_ ?_
      | refine LeO.bind ?_ (fun _ => ?_)
theorem vernierref06_Round.mono : ∀ a0 a1 a2 a3 a4 k, LeO (vernierref06_Round.f k a0 a1 a2 a3 a4) (vernierref06_Round.f (k + 1) a0 a1 a2 a3 a4) := by
  intro a0 a1 a2 a3 a4 k
  obtain ⟨ih0, ih1, ih2, ih3, ih4, ih5, ih6, ih7⟩ := vernierref06_Round.mono_l k
  unfold vernierref06_Round.f
  repeat' first
      | (with_reducible exact ih0 _ _ _ _ _ _)
      | (with_reducible exact ih1 _ _ _ _ _ _ _ _ _ _)
      | (with_reducible exact ih2 _ _ _ _ _ _ _ _ _ _ _)
      | (with_reducible exact ih3 _ _ _ _ _ _ _)
      | (with_reducible exact ih4 _ _ _ _ _ _)
      | (with_reducible exact ih5 _ _ _ _ _)
      | (with_reducible exact ih6 _ _ _ _ _)
      | (with_reducible exact ih7 _ _ _ _ _ _)
      | (with_reducible exact vernierref01_Bits.mono _ _)
      | (with_reducible exact vernierref01_Cmp.mono _ _ _)
      | (with_reducible exact vernierref01_Few.mono _ _ _)
      | (with_reducible exact vernierref01_Shl.mono _ _ _)
      | (with_reducible exact vernierref06_big.mono _ _ _)
      | (with_reducible exact vernierref06_shift.mono _ _ _ _)
      | (with_reducible exact LeO.refl _)
      | (with_reducible exact LeO.none _)
      | (with_reducible refine LeO.ite ?_ ?_)
      | (with_reducible refine LeO.bind ?_ (fun _ => ?_))
      | exact ih0 _ _ _ _ _ _
      | exact ih1 _ _ _ _ _ _ _ _ _ _
      | exact ih2 _ _ _ _ _ _ _ _ _ _ _
      | exact ih3 _ _ _ _ _ _ _
      | exact ih4 _ _ _ _ _ _
      | exact ih5 _ _ _ _ _
      | exact ih6 _ _ _ _ _
      | exact ih7 _ _ _ _ _ _
      | exact vernierref01_Bits.mono _ _
      | exact vernierref01_Cmp.mono _ _ _
      | exact vernierref01_Few.mono _ _ _
      | exact vernierref01_Shl.mono _ _ _
      | exact vernierref06_big.mono _ _ _
      | exact vernierref06_shift.mono _ _ _ _
      | exact LeO.none _
      | refine LeO.ite ?_ ?_
      | refine LeO.bind ?_ (fun _ => ?_)
set_option maxHeartbeats 8000000 in
set_option maxRecDepth 100000 in
theorem vernierref06_Round.calls (k : Nat) (a0 : Bool) (P1_ : Nat → Prop) (u9000_ : Value) (l1 : List Int) (P2_ : Nat → Prop) (u9001_ : Value) (l2 : List Int) (a3 : Int) (a4 : Int) (r1 : Int) (r2 : Int) (w0 w : World) (hB : Below w0.heap.size w0 w) (ho1 : Kd.R (Kd.int .i64) 3 w w0.heap.size P1_ u9000_ l1) (hp1_2 : ∀ k_, P1_ k_ → ¬ P2_ k_) (ho2 : Kd.R (Kd.int .i64) 3 w w0.heap.size P2_ u9001_ l2) (hp2_1 : ∀ k_, P2_ k_ → ¬ P1_ k_) (h : vernierref06_Round.f k a0 l1 l2 a3 a4 = some (r1, r2)) :
    Calls Try.prog 27 #[.bool a0, u9000_, u9001_, .int .i64 a3, .int .i64 a4] w fun e w' => e = .returned (.tuple #[.int .u64 r1, .int .i64 r2]) ∧ Below w0.heap.size w0 w' ∧ Kept w w' (fun k_ => P1_ k_ ∨ P2_ k_) := by
  have HO1 := Aside0.mk (show Kd.R (Kd.int .i64) 3 w w0.heap.size (fun k_ => ((P1_ k_ ∨ P2_ k_) ∨ w.heap.size ≤ k_) ∧ some k_ ≠ (u9001_ : Value).ownBlock) u9000_ l1 from Kd.R_mono ho1 (fun k_ hk => ⟨(.inl (.inl hk)), fun e_ => hp1_2 k_ hk (ho2.1 k_ e_.symm)⟩))
  have HO2 := Aside0.mk (show Kd.R (Kd.int .i64) 3 w w0.heap.size (fun k_ => ((P1_ k_ ∨ P2_ k_) ∨ w.heap.size ≤ k_) ∧ some k_ ≠ (u9000_ : Value).ownBlock) u9001_ l2 from Kd.R_mono ho2 (fun k_ hk => ⟨(.inl (.inr hk)), fun e_ => hp2_1 k_ hk (ho1.1 k_ e_.symm)⟩))
  have HK := Aside0.mk (Kept.refl w (fun k_ => P1_ k_ ∨ P2_ k_))
  have HW0 := Aside0.mk hB.size
  have HB := Aside0.mk hB
  clear hB
  have H : ((vernierref01_Bits.f k l1).bind fun t230 => ((vernierref01_Bits.f k l2).bind fun t231 => (if (wrap64 ((wrap64 (t230 - t231)) + a3)) > 2000 then ((vernierref06_big.f k a0 a4).bind fun bt232 => (some (bt232.1, bt232.2))) else (if (wrap64 ((wrap64 (t230 - t231)) + a3)) < (-3000) then (vernierref06_Round.j0 k a0 (([1] : List Int)) (([1] : List Int)) (-3000) a4 (-1074)) else (vernierref06_Round.j0 k a0 l1 l2 a3 a4 (mx (wrap64 ((wrap64 ((wrap64 (t230 - t231)) + a3)) - 54)) (-1074))))))) = some (r1, r2) := h
  clear h
  replace H := Option.bind_eq_some_iff.mp H
  obtain ⟨t230, A60, H⟩ := H
  replace H : ((vernierref01_Bits.f k l2).bind fun t231 => (if (wrap64 ((wrap64 (t230 - t231)) + a3)) > 2000 then ((vernierref06_big.f k a0 a4).bind fun bt232 => (some (bt232.1, bt232.2))) else (if (wrap64 ((wrap64 (t230 - t231)) + a3)) < (-3000) then (vernierref06_Round.j0 k a0 (([1] : List Int)) (([1] : List Int)) (-3000) a4 (-1074)) else (vernierref06_Round.j0 k a0 l1 l2 a3 a4 (mx (wrap64 ((wrap64 ((wrap64 (t230 - t231)) + a3)) - 54)) (-1074)))))) = some (r1, r2) := H
  have A6 := Aside0.mk A60
  clear A60
  replace H := Option.bind_eq_some_iff.mp H
  obtain ⟨t231, A70, H⟩ := H
  replace H : (if (wrap64 ((wrap64 (t230 - t231)) + a3)) > 2000 then ((vernierref06_big.f k a0 a4).bind fun bt232 => (some (bt232.1, bt232.2))) else (if (wrap64 ((wrap64 (t230 - t231)) + a3)) < (-3000) then (vernierref06_Round.j0 k a0 (([1] : List Int)) (([1] : List Int)) (-3000) a4 (-1074)) else (vernierref06_Round.j0 k a0 l1 l2 a3 a4 (mx (wrap64 ((wrap64 ((wrap64 (t230 - t231)) + a3)) - 54)) (-1074))))) = some (r1, r2) := H
  have A7 := Aside0.mk A70
  clear A70
  obtain ⟨ji8, hji8⟩ : ∃ j_ : Int, (mx (wrap64 ((wrap64 ((wrap64 (t230 - t231)) + a3)) - 54)) (-1074)) = j_ := ⟨_, rfl⟩
  replace H : (if (wrap64 ((wrap64 (t230 - t231)) + a3)) > 2000 then ((vernierref06_big.f k a0 a4).bind fun bt232 => (some (bt232.1, bt232.2))) else (if (wrap64 ((wrap64 (t230 - t231)) + a3)) < (-3000) then (vernierref06_Round.j0 k a0 (([1] : List Int)) (([1] : List Int)) (-3000) a4 (-1074)) else (vernierref06_Round.j0 k a0 l1 l2 a3 a4 ji8))) = some (r1, r2) := by first | (rw [hji8] at H; exact H) | (simp only [hji8] at H ⊢; exact H)
  (try rw [hji8] at A6)
  (try rw [hji8] at A7)
  have hji8_ : (if (wrap64 ((wrap64 ((wrap64 (t230 - t231)) + a3)) - 54)) < (-1074) then (-1074) else (wrap64 ((wrap64 ((wrap64 (t230 - t231)) + a3)) - 54))) = ji8 := hji8
  by_cases c9 : (wrap64 ((wrap64 (t230 - t231)) + a3)) > 2000
  · rw [if_pos c9] at H
    have c9b0 : decide (2000 < (wrap64 ((wrap64 (t230 - t231)) + a3))) = true := decide_eq_true c9
    clear c9
    replace H := Option.bind_eq_some_iff.mp H
    obtain ⟨⟨t232, t233⟩, A100, H⟩ := H
    replace H : (some (t232, t233)) = some (r1, r2) := H
    have A10 := Aside0.mk A100
    clear A100
    simp only [Option.some.injEq, Prod.mk.injEq] at H
    obtain ⟨rfl, rfl⟩ := H
    obtain ⟨Ao11, co11, eo11⟩ := Kd.R_slice HO1.out
    subst eo11
    go_enter Try.func27, Try.ntmps27
    go_wp2_with (first | ((with_reducible refine gate_callee (f := 24) rfl ?_); refine goesL_ (some 28) rfl rfl Try.func24 (by kernel_rfl) rfl #[.slice Ao11 l1.length co11] rfl (by (try simp only [List.map_toArray, List.map_cons, List.map_nil]); first | done | rfl | (simp only [List.length_drop, List.length_take]; rfl)) ?_; (with_reducible refine (vernierref01_Bits.calls k _ _ l1 t230 _ ?side1 ?side2 A6.out).mono ?_); (case side1 => repeat (first | exact (Kd.R_reads' HO1.out).2.2 | (with_reducible refine Kd.C_alloc ?_ _) | (with_reducible refine Kd.C_drewN ?_ _) | (with_reducible refine Kd.C_drew ?_))); (case side2 => exact (Kd.R_reads' HO1.out).2.1); rintro e w' ⟨rfl, ⟨nd, rfl⟩⟩; refine ⟨_, rfl, ?_⟩; obtain ⟨Ao12, co12, eo12⟩ := Kd.R_slice HO2.out; subst eo12) | ((with_reducible refine gate_callee (f := 24) rfl ?_); refine goesL_ (some 30) rfl rfl Try.func24 (by kernel_rfl) rfl #[.slice Ao12 l2.length co12] rfl (by (try simp only [List.map_toArray, List.map_cons, List.map_nil]); first | done | rfl | (simp only [List.length_drop, List.length_take]; rfl)) ?_; (with_reducible refine (vernierref01_Bits.calls k _ _ l2 t231 _ ?side1 ?side2 A7.out).mono ?_); (case side1 => repeat (first | exact (Kd.R_reads' HO2.out).2.2 | (with_reducible refine Kd.C_alloc ?_ _) | (with_reducible refine Kd.C_drewN ?_ _) | (with_reducible refine Kd.C_drew ?_))); (case side2 => exact (Kd.R_reads' HO2.out).2.1); rintro e w' ⟨rfl, ⟨nd, rfl⟩⟩; refine ⟨_, rfl, ?_⟩) | ((with_reducible refine gate_callee (f := 48) rfl ?_); refine goesL_ (some 41) rfl rfl Try.func48 (by kernel_rfl) rfl #[.bool a0, .int .i64 a4] rfl (by (try simp only [List.map_toArray, List.map_cons, List.map_nil]); first | done | rfl | (simp only [List.length_drop, List.length_take]; rfl)) ?_; (with_reducible refine (vernierref06_big.calls k a0 a4 t232 t233 _ A10.out).mono ?_); rintro e w' ⟨rfl, ⟨nd, rfl⟩⟩; refine ⟨_, rfl, ?_⟩))
    go_ret2
    exact ⟨by first | rfl | (simp [errW_none, errW_some] <;> rfl) | (simp only [← hji8]; first | rfl | (simp [errW_none, errW_some] <;> rfl)) | (simp [*, errW_none, errW_some] <;> rfl), by repeat (first | (with_reducible first | exact HB.out | apply below_alloc | apply pw_below_drewN | apply below_drew1) | exact HB.out), by repeat (first | (with_reducible first | exact HK.out | apply Kept.alloc | apply Kept.drewN | apply Kept.drew) | exact HK.out)⟩
  · rw [if_neg c9] at H
    have c9b0 : decide (2000 < (wrap64 ((wrap64 (t230 - t231)) + a3))) = false := decide_eq_false c9
    clear c9
    have HC13 := Aside0.mk H
    clear H
    obtain ⟨Ao14, co14, eo14⟩ := Kd.R_slice HO1.out
    subst eo14
    go_enter Try.func27, Try.ntmps27
    go_upto_if 45 with (first | ((with_reducible refine gate_callee (f := 24) rfl ?_); refine goesL_ (some 28) rfl rfl Try.func24 (by kernel_rfl) rfl #[.slice Ao14 l1.length co14] rfl (by (try simp only [List.map_toArray, List.map_cons, List.map_nil]); first | done | rfl | (simp only [List.length_drop, List.length_take]; rfl)) ?_; (with_reducible refine (vernierref01_Bits.calls k _ _ l1 t230 _ ?side1 ?side2 A6.out).mono ?_); (case side1 => repeat (first | exact (Kd.R_reads' HO1.out).2.2 | (with_reducible refine Kd.C_alloc ?_ _) | (with_reducible refine Kd.C_drewN ?_ _) | (with_reducible refine Kd.C_drew ?_))); (case side2 => exact (Kd.R_reads' HO1.out).2.1); rintro e w' ⟨rfl, ⟨nd, rfl⟩⟩; refine ⟨_, rfl, ?_⟩; obtain ⟨Ao15, co15, eo15⟩ := Kd.R_slice HO2.out; subst eo15) | ((with_reducible refine gate_callee (f := 24) rfl ?_); refine goesL_ (some 30) rfl rfl Try.func24 (by kernel_rfl) rfl #[.slice Ao15 l2.length co15] rfl (by (try simp only [List.map_toArray, List.map_cons, List.map_nil]); first | done | rfl | (simp only [List.length_drop, List.length_take]; rfl)) ?_; (with_reducible refine (vernierref01_Bits.calls k _ _ l2 t231 _ ?side1 ?side2 A7.out).mono ?_); (case side1 => repeat (first | exact (Kd.R_reads' HO2.out).2.2 | (with_reducible refine Kd.C_alloc ?_ _) | (with_reducible refine Kd.C_drewN ?_ _) | (with_reducible refine Kd.C_drew ?_))); (case side2 => exact (Kd.R_reads' HO2.out).2.1); rintro e w' ⟨rfl, ⟨nd, rfl⟩⟩; refine ⟨_, rfl, ?_⟩))
    (try simp only [Act.put, List.setIfInBounds_toArray, List.set_cons_zero, List.set_cons_succ])
    go_cut [1, 2, 3, 13] (fun v1 v2 v3 v13 wc => ∃ (kq : Nat) (x1_12 : List Int) (x2_12 : List Int) (x3_12 : Int) (x13_12 : Int), v3 = .int .i64 x3_12 ∧ v13 = .int .i64 x13_12 ∧ Aside0 (vernierref06_Round.j0 kq a0 x1_12 x2_12 x3_12 a4 x13_12 = some (r1, r2)) ∧ Aside0 (kq ≤ k) ∧ Aside0 (Kd.R (Kd.int .i64) 3 wc w0.heap.size (fun k_ => ((P1_ k_ ∨ P2_ k_) ∨ w.heap.size ≤ k_) ∧ some k_ ≠ (v2 : Value).ownBlock) v1 x1_12) ∧ Aside0 (Kd.R (Kd.int .i64) 3 wc w0.heap.size (fun k_ => ((P1_ k_ ∨ P2_ k_) ∨ w.heap.size ≤ k_) ∧ some k_ ≠ (v1 : Value).ownBlock) v2 x2_12) ∧ Aside0 (Kept w wc (fun k_ => P1_ k_ ∨ P2_ k_)) ∧ Aside0 (Below w0.heap.size w0 wc))
    case first => as_aux_lemma =>
      have H := HC13.out
      clear HC13
      by_cases c16 : (wrap64 ((wrap64 (t230 - t231)) + a3)) < (-3000)
      · rw [if_pos c16] at H
        have c16b0 : decide ((wrap64 ((wrap64 (t230 - t231)) + a3)) < (-3000)) = true := decide_eq_true c16
        clear c16
        (first | rw [c16b0] | (simp only [i64_w, i32_w]; rw [c16b0]) | skip)
        obtain ⟨y234, hy234⟩ : ∃ y_ : List Int, y_ = (([1] : List Int)) := ⟨_, rfl⟩
        replace H : (vernierref06_Round.j0 k a0 y234 (([1] : List Int)) (-3000) a4 (-1074)) = some (r1, r2) := by first | (rw [hy234]; with_reducible exact H) | (have H2_ := (Option.bind_some _ _).symm.trans H; rw [hy234]; with_reducible exact H2_) | (have H2_ := (Option.bind_some _ _).symm.trans H; with_reducible exact H2_) | with_reducible exact H | (rw [hy234]; exact H) | exact H
        have Ny234 := Aside0.mk hy234
        clear hy234
        obtain ⟨y237, hy237⟩ : ∃ y_ : List Int, y_ = (([1] : List Int)) := ⟨_, rfl⟩
        replace H : (vernierref06_Round.j0 k a0 y234 y237 (-3000) a4 (-1074)) = some (r1, r2) := by first | (rw [hy237]; with_reducible exact H) | (have H2_ := (Option.bind_some _ _).symm.trans H; rw [hy237]; with_reducible exact H2_) | (have H2_ := (Option.bind_some _ _).symm.trans H; with_reducible exact H2_) | with_reducible exact H | (rw [hy237]; exact H) | exact H
        have Ny237 := Aside0.mk hy237
        clear hy237
        have H' := Aside0.mk H
        clear H
        go_wp2_with (first | ((with_reducible refine gate_dst (N := 46) rfl ?_); refine Kd.R_lit (Kd.int .i64) _ 3 ?hg (N := 46) ?hd (xs := ([1] : List Int)) (inner := [.int .i64 1]) (ok := fun _ => True) (okp := fun _ => True) ?hr ?hp (fun _ hk => hk) trivial (Below.refl _ _) (Nat.le_refl _) (by simp) ?_; (case hd => rfl); (case hg => rfl); (case hr => first | (go_simp; done) | (go_simp; rfl)); (case hp => exact (Reps.one (show Kd.M (Kd.int .i64) _ _ _ 1 [.int .i64 1] from rfl) (Reps.none _ _))); intro v235 w17 ho18 hb hg_ hnew_; clear hg_ hnew_; (first | rw [← Ny234.out] at ho18 | (simp only [Int.reduceToNat] at ho18; rw [← Ny234.out] at ho18)); have n0_ := Aside0.mk (Kd.R_elder' (by (with_reducible repeat (first | apply Kd.R_alloc | apply Kd.R_drewN | apply Kd.R_drew)); exact HO1.out) (Kd.R_base ho18) hb); have n1_ := Aside0.mk (Kd.R_elder' (by (with_reducible repeat (first | apply Kd.R_alloc | apply Kd.R_drewN | apply Kd.R_drew)); exact HO2.out) (Kd.R_base ho18) hb); have n2_ := Aside0.mk (Kd.R_lower (Kd.R_new' (Kd.R_new' (Kd.R_newM (M := fun k_ => ((P1_ k_ ∨ P2_ k_) ∨ w.heap.size ≤ k_)) ho18 (by first | exact HK.out.1 | exact (show Kept w _ (fun k_ => P1_ k_ ∨ P2_ k_) from by repeat (first | (with_reducible first | exact HK.out | apply Kept.alloc | apply Kept.drewN | apply Kept.drew) | exact HK.out)).1) (fun k_ h_ => .inr h_)) (Kd.R_lt (by (with_reducible repeat (first | apply Kd.R_alloc | apply Kd.R_drewN | apply Kd.R_drew)); exact HO1.out))) (Kd.R_lt (by (with_reducible repeat (first | apply Kd.R_alloc | apply Kd.R_drewN | apply Kd.R_drew)); exact HO2.out))) (below_size (by repeat (first | (with_reducible first | exact HB.out | apply below_alloc | apply pw_below_drewN | apply below_drew1) | exact HB.out)))); have n3_ := Aside0.mk (Kept.below (S := (fun k_ => P1_ k_ ∨ P2_ k_)) (by repeat (first | (with_reducible first | exact HK.out | apply Kept.alloc | apply Kept.drewN | apply Kept.drew) | exact HK.out)) hb); have n4_ := Aside0.mk (below_step (by repeat (first | (with_reducible first | exact HB.out | apply below_alloc | apply pw_below_drewN | apply below_drew1) | exact HB.out)) hb); clear HO1; clear HO2; clear HK; clear HB; have HO1 := n0_; have HO2 := n1_; have HO236 := n2_; have HK := n3_; have HB := n4_; clear n0_ n1_ n2_ n3_ n4_; clear hb ho18) | ((with_reducible refine gate_dst (N := 47) rfl ?_); refine Kd.R_lit (Kd.int .i64) _ 3 ?hg (N := 47) ?hd (xs := ([1] : List Int)) (inner := [.int .i64 1]) (ok := fun _ => True) (okp := fun _ => True) ?hr ?hp (fun _ hk => hk) trivial (Below.refl _ _) (Nat.le_refl _) (by simp) ?_; (case hd => rfl); (case hg => rfl); (case hr => first | (go_simp; done) | (go_simp; rfl)); (case hp => exact (Reps.one (show Kd.M (Kd.int .i64) _ _ _ 1 [.int .i64 1] from rfl) (Reps.none _ _))); intro v238 w19 ho20 hb hg_ hnew_; clear hg_ hnew_; (first | rw [← Ny237.out] at ho20 | (simp only [Int.reduceToNat] at ho20; rw [← Ny237.out] at ho20)); have n0_ := Aside0.mk (Kd.R_elder' (by (with_reducible repeat (first | apply Kd.R_alloc | apply Kd.R_drewN | apply Kd.R_drew)); exact HO1.out) (Kd.R_base ho20) hb); have n1_ := Aside0.mk (Kd.R_elder' (by (with_reducible repeat (first | apply Kd.R_alloc | apply Kd.R_drewN | apply Kd.R_drew)); exact HO2.out) (Kd.R_base ho20) hb); have n2_ := Aside0.mk (Kd.R_elder' (by (with_reducible repeat (first | apply Kd.R_alloc | apply Kd.R_drewN | apply Kd.R_drew)); exact HO236.out) (Kd.R_base ho20) hb); have n3_ := Aside0.mk (Kd.R_lower (Kd.R_new' (Kd.R_new' (Kd.R_new' (Kd.R_newM (M := fun k_ => ((P1_ k_ ∨ P2_ k_) ∨ w.heap.size ≤ k_)) ho20 (by first | exact HK.out.1 | exact (show Kept w _ (fun k_ => P1_ k_ ∨ P2_ k_) from by repeat (first | (with_reducible first | exact HK.out | apply Kept.alloc | apply Kept.drewN | apply Kept.drew) | exact HK.out)).1) (fun k_ h_ => .inr h_)) (Kd.R_lt (by (with_reducible repeat (first | apply Kd.R_alloc | apply Kd.R_drewN | apply Kd.R_drew)); exact HO1.out))) (Kd.R_lt (by (with_reducible repeat (first | apply Kd.R_alloc | apply Kd.R_drewN | apply Kd.R_drew)); exact HO2.out))) (Kd.R_lt (by (with_reducible repeat (first | apply Kd.R_alloc | apply Kd.R_drewN | apply Kd.R_drew)); exact HO236.out))) (below_size (by repeat (first | (with_reducible first | exact HB.out | apply below_alloc | apply pw_below_drewN | apply below_drew1) | exact HB.out)))); have n4_ := Aside0.mk (Kept.below (S := (fun k_ => P1_ k_ ∨ P2_ k_)) (by repeat (first | (with_reducible first | exact HK.out | apply Kept.alloc | apply Kept.drewN | apply Kept.drew) | exact HK.out)) hb); have n5_ := Aside0.mk (below_step (by repeat (first | (with_reducible first | exact HB.out | apply below_alloc | apply pw_below_drewN | apply below_drew1) | exact HB.out)) hb); clear HO1; clear HO2; clear HO236; clear HK; clear HB; have HO1 := n0_; have HO2 := n1_; have HO236 := n2_; have HO239 := n3_; have HK := n4_; have HB := n5_; clear n0_ n1_ n2_ n3_ n4_ n5_; clear hb ho20))
        go_meet
        case rel => exact ⟨_, (y234), (y237), ((-3000)), ((-1074)), (by first | rfl | (simp; done) | (simp [*]; done)), (by first | rfl | (simp; done) | (simp [*]; done)), H', ⟨by first | omega | exact Nat.le_refl _⟩, ⟨by (with_reducible repeat (first | apply Kd.R_alloc | apply Kd.R_drewN | apply Kd.R_drew)); exact Kd.R_mono HO236.out (fun _ hk => ⟨hk.1.1.1.1, hk.2⟩)⟩, ⟨by (with_reducible repeat (first | apply Kd.R_alloc | apply Kd.R_drewN | apply Kd.R_drew)); exact Kd.R_mono HO239.out (fun _ hk => ⟨hk.1.1.1.1, hk.2⟩)⟩, ⟨by repeat (first | (with_reducible first | exact HK.out | apply Kept.alloc | apply Kept.drewN | apply Kept.drew) | exact HK.out)⟩, ⟨by repeat (first | (with_reducible first | exact HB.out | apply below_alloc | apply pw_below_drewN | apply below_drew1) | exact HB.out)⟩⟩
      · rw [if_neg c16] at H
        have c16b0 : decide ((wrap64 ((wrap64 (t230 - t231)) + a3)) < (-3000)) = false := decide_eq_false c16
        clear c16
        (first | rw [c16b0] | (simp only [i64_w, i32_w]; rw [c16b0]) | skip)
        have H' := Aside0.mk H
        clear H
        go_wp2
        go_meet
        case rel => exact ⟨_, (l1), (l2), (a3), (ji8), (by first | rfl | (simp; done) | (simp [*]; done)), (by first | rfl | (simp; done) | (simp only [← hji8] <;> (first | rfl | simp)) | (simp [*]; done)), H', ⟨by first | omega | exact Nat.le_refl _⟩, ⟨by (with_reducible repeat (first | apply Kd.R_alloc | apply Kd.R_drewN | apply Kd.R_drew)); exact HO1.out⟩, ⟨by (with_reducible repeat (first | apply Kd.R_alloc | apply Kd.R_drewN | apply Kd.R_drew)); exact HO2.out⟩, ⟨by repeat (first | (with_reducible first | exact HK.out | apply Kept.alloc | apply Kept.drewN | apply Kept.drew) | exact HK.out)⟩, ⟨by repeat (first | (with_reducible first | exact HB.out | apply below_alloc | apply pw_below_drewN | apply below_drew1) | exact HB.out)⟩⟩
    case rest => as_aux_lemma =>
      clear HC13
      try clear c1
      try clear p1
      try clear c2
      try clear p2
      try clear c4
      try clear p6
      try clear c9
      try clear c9b0
      try clear c16
      try clear c16b0
      obtain ⟨kq, x1_12, x2_12, x3_12, x13_12, rfl, rfl, HA, HJ12, HO_1, HO_2, HK, HB⟩ := hcut
      cases kq with
      | zero => exact absurd HA.out (by simp [vernierref06_Round.j0])
      | succ kj12 =>
        have H := HA.out
        clear HA
        simp only [vernierref06_Round.j0] at H
        have H' := Aside0.mk H
        clear H
        go_wp2
        go_loopg [13, 14, 15, 16, 17] kj12 (fun kq v13 v14 v15 v16 v17 w' => ∃ (x13_2 : Int) (x14_2 : Int) (x15_2 : List Int) (x16_2 : List Int) (x17_2 : Int), v13 = .int .i64 x13_2 ∧ v14 = .int .u64 x14_2 ∧ v17 = .int .i64 x17_2 ∧ Aside0 (vernierref06_Round.l0 kq a0 x1_12 x2_12 x3_12 a4 x13_2 x14_2 x15_2 x16_2 x17_2 = some (r1, r2)) ∧ Aside0 (kq ≤ kj12) ∧ Aside0 (Kd.R (Kd.int .i64) 3 w' w0.heap.size (fun k_ => ((P1_ k_ ∨ P2_ k_) ∨ w.heap.size ≤ k_) ∧ some k_ ≠ (u2 : Value).ownBlock) u1 x1_12) ∧ Aside0 (Kd.R (Kd.int .i64) 3 w' w0.heap.size (fun k_ => ((P1_ k_ ∨ P2_ k_) ∨ w.heap.size ≤ k_) ∧ some k_ ≠ (u1 : Value).ownBlock) u2 x2_12) ∧ Aside0 (Kd.V (Kd.int .i64) 3 w' w0.heap.size (fun k_ => ((P1_ k_ ∨ P2_ k_) ∨ w.heap.size ≤ k_)) v15 x15_2) ∧ Aside0 (Kd.V (Kd.int .i64) 3 w' w0.heap.size (fun k_ => ((P1_ k_ ∨ P2_ k_) ∨ w.heap.size ≤ k_)) v16 x16_2) ∧ Aside0 (Kept w w' (fun k_ => P1_ k_ ∨ P2_ k_)) ∧ Aside0 (Below w0.heap.size w0 w'))
        case atStart => exact ⟨(x13_12), (0), (([] : List Int)), (([] : List Int)), (0), (by first | rfl | (simp; done) | (simp [*]; done)), (by first | rfl | (simp; done) | (simp [*]; done)), (by first | rfl | (simp; done) | (simp [*]; done)), H', ⟨Nat.le_refl _⟩, ⟨by (with_reducible repeat (first | apply Kd.R_alloc | apply Kd.R_drewN | apply Kd.R_drew)); exact HO_1.out⟩, ⟨by (with_reducible repeat (first | apply Kd.R_alloc | apply Kd.R_drewN | apply Kd.R_drew)); exact HO_2.out⟩, ⟨Kd.R_V (by first | exact Kd.R_nil _ _ _ 0 _ | exact Kd.R_nil _ _ _ _ _ | exact Kd.N_nil _ _ _ _ _ | exact Kd.V_nil _ _ _ _ _ | exact Kd.Q_nil _ _ _ _ _ | exact Kd.S_nil _ _ _ _ _)⟩, ⟨Kd.R_V (by first | exact Kd.R_nil _ _ _ 0 _ | exact Kd.R_nil _ _ _ _ _ | exact Kd.N_nil _ _ _ _ _ | exact Kd.V_nil _ _ _ _ _ | exact Kd.Q_nil _ _ _ _ _ | exact Kd.S_nil _ _ _ _ _)⟩, ⟨by repeat (first | (with_reducible first | exact HK.out | apply Kept.alloc | apply Kept.drewN | apply Kept.drew) | exact HK.out)⟩, ⟨by repeat (first | (with_reducible first | exact HB.out | apply below_alloc | apply pw_below_drewN | apply below_drew1) | exact HB.out)⟩⟩
        case round =>
          clear H'
          try clear c1
          try clear p1
          try clear c2
          try clear p2
          try clear c4
          try clear p6
          try clear c9
          try clear c9b0
          try clear c16
          try clear c16b0
          try clear p1
          try clear p2
          try clear p6
          obtain ⟨x13_2, x14_2, x15_2, x16_2, x17_2, rfl, rfl, rfl, HA, HK2, HO_1, HO_2, HO_15, HO_16, HK, HB⟩ := hrel
          cases gk with
          | zero => exact absurd HA.out (by simp [vernierref06_Round.l0])
          | succ k2 =>
            have H := HA.out
            clear HA
            simp only [vernierref06_Round.l0] at H
            have HC21 := Aside0.mk H
            clear H
            go_upto_region 11 with (fail)
            go_cut [57] (fun v57 wc => ∃ (kq : Nat) (x57_20 : Bool), v57 = .bool x57_20 ∧ Aside0 (vernierref06_Round.j2 kq a0 x1_12 x2_12 x3_12 a4 x13_2 x14_2 x15_2 x16_2 x17_2 x57_20 = some (r1, r2)) ∧ Aside0 (kq ≤ k2) ∧ Aside0 (Kd.R (Kd.int .i64) 3 wc w0.heap.size (fun k_ => ((P1_ k_ ∨ P2_ k_) ∨ w.heap.size ≤ k_) ∧ some k_ ≠ (u2 : Value).ownBlock) u1 x1_12) ∧ Aside0 (Kd.R (Kd.int .i64) 3 wc w0.heap.size (fun k_ => ((P1_ k_ ∨ P2_ k_) ∨ w.heap.size ≤ k_) ∧ some k_ ≠ (u1 : Value).ownBlock) u2 x2_12) ∧ Aside0 (Kd.V (Kd.int .i64) 3 wc w0.heap.size (fun k_ => ((P1_ k_ ∨ P2_ k_) ∨ w.heap.size ≤ k_)) u15 x15_2) ∧ Aside0 (Kd.V (Kd.int .i64) 3 wc w0.heap.size (fun k_ => ((P1_ k_ ∨ P2_ k_) ∨ w.heap.size ≤ k_)) u16 x16_2) ∧ Aside0 (Kept w wc (fun k_ => P1_ k_ ∨ P2_ k_)) ∧ Aside0 (Below w0.heap.size w0 wc))
            case first => as_aux_lemma =>
              have H := HC21.out
              clear HC21
              by_cases c22 : x17_2 < 9
              · rw [if_pos c22] at H
                have c22b0 : decide (x17_2 < 9) = true := decide_eq_true c22
                clear c22
                (first | rw [c22b0] | (simp only [i64_w, i32_w]; rw [c22b0]) | skip)
                by_cases c23 : x17_2 = 0
                · rw [if_pos c23] at H
                  have c23b0 : (x17_2 == 0) = true := beq_iff_eq.mpr c23
                  have c23b1 : (x17_2 != 0) = false := bne_eq_false_iff_eq.mpr c23
                  clear c23
                  have H' := Aside0.mk H
                  clear H
                  go_wp2
                  go_meet
                  case rel => exact ⟨_, (true), (by first | rfl | (simp; done) | (simp [*]; done)), H', ⟨by have := HJ12.out; have := HK2.out; first | omega | exact Nat.le_refl _⟩, ⟨by (with_reducible repeat (first | apply Kd.R_alloc | apply Kd.R_drewN | apply Kd.R_drew)); exact HO_1.out⟩, ⟨by (with_reducible repeat (first | apply Kd.R_alloc | apply Kd.R_drewN | apply Kd.R_drew)); exact HO_2.out⟩, ⟨by (with_reducible repeat (first | apply Kd.V_alloc | apply Kd.V_drewN | apply Kd.V_drew)); exact HO_15.out⟩, ⟨by (with_reducible repeat (first | apply Kd.V_alloc | apply Kd.V_drewN | apply Kd.V_drew)); exact HO_16.out⟩, ⟨by repeat (first | (with_reducible first | exact HK.out | apply Kept.alloc | apply Kept.drewN | apply Kept.drew) | exact HK.out)⟩, ⟨by repeat (first | (with_reducible first | exact HB.out | apply below_alloc | apply pw_below_drewN | apply below_drew1) | exact HB.out)⟩⟩
                · rw [if_neg c23] at H
                  have c23b0 : (x17_2 == 0) = false := beq_eq_false_iff_ne.mpr c23
                  have c23b1 : (x17_2 != 0) = true := bne_iff_ne.mpr c23
                  have H' := Aside0.mk H
                  clear H
                  go_wp2
                  go_meet
                  case rel => exact ⟨_, (decide (x14_2 ≥ 9007199254740992)), (by first | rfl | (simp; done) | (simp [*]; done)), H', ⟨by have := HJ12.out; have := HK2.out; first | omega | exact Nat.le_refl _⟩, ⟨by (with_reducible repeat (first | apply Kd.R_alloc | apply Kd.R_drewN | apply Kd.R_drew)); exact HO_1.out⟩, ⟨by (with_reducible repeat (first | apply Kd.R_alloc | apply Kd.R_drewN | apply Kd.R_drew)); exact HO_2.out⟩, ⟨by (with_reducible repeat (first | apply Kd.V_alloc | apply Kd.V_drewN | apply Kd.V_drew)); exact HO_15.out⟩, ⟨by (with_reducible repeat (first | apply Kd.V_alloc | apply Kd.V_drewN | apply Kd.V_drew)); exact HO_16.out⟩, ⟨by repeat (first | (with_reducible first | exact HK.out | apply Kept.alloc | apply Kept.drewN | apply Kept.drew) | exact HK.out)⟩, ⟨by repeat (first | (with_reducible first | exact HB.out | apply below_alloc | apply pw_below_drewN | apply below_drew1) | exact HB.out)⟩⟩
              · rw [if_neg c22] at H
                have c22b0 : decide (x17_2 < 9) = false := decide_eq_false c22
                clear c22
                (first | rw [c22b0] | (simp only [i64_w, i32_w]; rw [c22b0]) | skip)
                have H' := Aside0.mk H
                clear H
                go_wp2
                go_meet
                case rel => exact ⟨_, (false), (by first | rfl | (simp; done) | (simp [*]; done)), H', ⟨by have := HJ12.out; have := HK2.out; first | omega | exact Nat.le_refl _⟩, ⟨by (with_reducible repeat (first | apply Kd.R_alloc | apply Kd.R_drewN | apply Kd.R_drew)); exact HO_1.out⟩, ⟨by (with_reducible repeat (first | apply Kd.R_alloc | apply Kd.R_drewN | apply Kd.R_drew)); exact HO_2.out⟩, ⟨by (with_reducible repeat (first | apply Kd.V_alloc | apply Kd.V_drewN | apply Kd.V_drew)); exact HO_15.out⟩, ⟨by (with_reducible repeat (first | apply Kd.V_alloc | apply Kd.V_drewN | apply Kd.V_drew)); exact HO_16.out⟩, ⟨by repeat (first | (with_reducible first | exact HK.out | apply Kept.alloc | apply Kept.drewN | apply Kept.drew) | exact HK.out)⟩, ⟨by repeat (first | (with_reducible first | exact HB.out | apply below_alloc | apply pw_below_drewN | apply below_drew1) | exact HB.out)⟩⟩
            case rest => as_aux_lemma =>
              clear HC21
              try clear c1
              try clear p1
              try clear c2
              try clear p2
              try clear c4
              try clear p6
              try clear c9
              try clear c9b0
              try clear c16
              try clear c16b0
              try clear c22
              try clear c22b0
              try clear c23
              try clear c23b0
              try clear c23b1
              try clear p1
              try clear p2
              try clear p6
              obtain ⟨kq, x57_20, rfl, HA, HJ20, HO_1, HO_2, HO_15, HO_16, HK, HB⟩ := hcut
              cases kq with
              | zero => exact absurd HA.out (by simp [vernierref06_Round.j2])
              | succ kj20 =>
                have H := HA.out
                clear HA
                simp only [vernierref06_Round.j2] at H
                by_cases c24 : x57_20 = true
                · subst c24
                  have H1 : (if x17_2 > 0 then ((vernierref06_shift.f kj20 x1_12 x2_12 (wrap64 (x3_12 - (wrap64 (x13_2 + 1))))).bind fun bt240 => ((vernierref01_Few.f kj20 bt240.1 bt240.2).bind fun bt246 => (vernierref06_Round.l0 kj20 a0 x1_12 x2_12 x3_12 a4 (wrap64 (x13_2 + 1)) bt246.1 bt246.2 bt240.2 (wrap64 (x17_2 + 1))))) else ((vernierref06_shift.f kj20 x1_12 x2_12 (wrap64 (x3_12 - x13_2))).bind fun bt250 => ((vernierref01_Few.f kj20 bt250.1 bt250.2).bind fun bt256 => (vernierref06_Round.l0 kj20 a0 x1_12 x2_12 x3_12 a4 x13_2 bt256.1 bt256.2 bt250.2 (wrap64 (x17_2 + 1)))))) = some (r1, r2) := by rw [if_pos rfl] at H; exact H
                  clear H
                  have H := H1
                  clear H1
                  by_cases c25 : x17_2 > 0
                  · rw [if_pos c25] at H
                    have c25b0 : decide (0 < x17_2) = true := decide_eq_true c25
                    clear c25
                    replace H := Option.bind_eq_some_iff.mp H
                    obtain ⟨⟨t240, t243⟩, A260, H⟩ := H
                    replace H : ((vernierref01_Few.f kj20 t240 t243).bind fun bt246 => (vernierref06_Round.l0 kj20 a0 x1_12 x2_12 x3_12 a4 (wrap64 (x13_2 + 1)) bt246.1 bt246.2 t243 (wrap64 (x17_2 + 1)))) = some (r1, r2) := H
                    have A26 := Aside0.mk A260
                    clear A260
                    replace H := Option.bind_eq_some_iff.mp H
                    obtain ⟨⟨t246, t247⟩, A270, H⟩ := H
                    replace H : (vernierref06_Round.l0 kj20 a0 x1_12 x2_12 x3_12 a4 (wrap64 (x13_2 + 1)) t246 t247 t243 (wrap64 (x17_2 + 1))) = some (r1, r2) := H
                    have A27 := Aside0.mk A270
                    clear A270
                    have H' := Aside0.mk H
                    clear H
                    obtain ⟨Ao28, co28, eo28⟩ := Kd.R_slice HO_1.out
                    subst eo28
                    obtain ⟨Ao29, co29, eo29⟩ := Kd.R_slice HO_2.out
                    subst eo29
                    go_wp2_with (first | ((with_reducible refine gate_callee (f := 49) rfl ?_); refine goesL_ (some 70) rfl rfl Try.func49 (by kernel_rfl) rfl #[.slice Ao28 x1_12.length co28, .slice Ao29 x2_12.length co29, .int .i64 (wrap64 (x3_12 - (wrap64 (x13_2 + 1))))] rfl (by (try simp only [List.map_toArray, List.map_cons, List.map_nil]); first | done | rfl | (simp only [List.length_drop, List.length_take]; rfl)) ?_; (with_reducible refine (vernierref06_shift.calls kj20 (fun k_ => some k_ = (.slice Ao28 x1_12.length co28 : Value).ownBlock) _ _ x1_12 (fun k_ => some k_ = (.slice Ao29 x2_12.length co29 : Value).ownBlock) _ _ x2_12 (wrap64 (x3_12 - (wrap64 (x13_2 + 1)))) t240 t243 _ ?side1 ?side2 A26.out).mono ?_); (case side1 => exact Kd.R_V (Kd.R_tight rfl (HO_1.out))); (case side2 => exact Kd.R_V (Kd.R_tight rfl (HO_2.out))); rintro e w30 ⟨v241, v244, rfl, ho0, ho1, hb⟩; refine ⟨_, rfl, ?_⟩; have n0_ := Aside0.mk (Kd.R_below (by (with_reducible repeat (first | apply Kd.R_alloc | apply Kd.R_drewN | apply Kd.R_drew)); exact HO_1.out) hb); have n1_ := Aside0.mk (Kd.R_below (by (with_reducible repeat (first | apply Kd.R_alloc | apply Kd.R_drewN | apply Kd.R_drew)); exact HO_2.out) hb); have n2_ := Aside0.mk (Kd.V_below (by (with_reducible repeat (first | apply Kd.V_alloc | apply Kd.V_drewN | apply Kd.V_drew)); exact HO_15.out) hb); have n3_ := Aside0.mk (Kd.V_below (by (with_reducible repeat (first | apply Kd.V_alloc | apply Kd.V_drewN | apply Kd.V_drew)); exact HO_16.out) hb); have n4_ := Aside0.mk (Kd.V_lower (Kd.V_mono (ok' := fun k_ => ((P1_ k_ ∨ P2_ k_) ∨ w.heap.size ≤ k_)) ho0 (fun k_ hk_ => Or.elim hk_ (fun hs_ => Or.elim hs_ (fun hs_ => ((HO_1.out).1 k_ hs_.symm).1) (fun hs_ => ((HO_2.out).1 k_ hs_.symm).1)) (fun hn_ => (.inr (Nat.le_trans (by first | exact HK.out.1 | exact (show Kept w _ (fun k_ => P1_ k_ ∨ P2_ k_) from by repeat (first | (with_reducible first | exact HK.out | apply Kept.alloc | apply Kept.drewN | apply Kept.drew) | exact HK.out)).1) hn_))))) (below_size (by repeat (first | (with_reducible first | exact HB.out | apply below_alloc | apply pw_below_drewN | apply below_drew1) | exact HB.out)))); have n5_ := Aside0.mk (Kd.V_lower (Kd.V_mono (ok' := fun k_ => ((P1_ k_ ∨ P2_ k_) ∨ w.heap.size ≤ k_)) ho1 (fun k_ hk_ => Or.elim hk_ (fun hs_ => Or.elim hs_ (fun hs_ => ((HO_1.out).1 k_ hs_.symm).1) (fun hs_ => ((HO_2.out).1 k_ hs_.symm).1)) (fun hn_ => (.inr (Nat.le_trans (by first | exact HK.out.1 | exact (show Kept w _ (fun k_ => P1_ k_ ∨ P2_ k_) from by repeat (first | (with_reducible first | exact HK.out | apply Kept.alloc | apply Kept.drewN | apply Kept.drew) | exact HK.out)).1) hn_))))) (below_size (by repeat (first | (with_reducible first | exact HB.out | apply below_alloc | apply pw_below_drewN | apply below_drew1) | exact HB.out)))); have n6_ := Aside0.mk (Kept.below (S := (fun k_ => P1_ k_ ∨ P2_ k_)) (by repeat (first | (with_reducible first | exact HK.out | apply Kept.alloc | apply Kept.drewN | apply Kept.drew) | exact HK.out)) hb); have n7_ := Aside0.mk (below_step (by repeat (first | (with_reducible first | exact HB.out | apply below_alloc | apply pw_below_drewN | apply below_drew1) | exact HB.out)) hb); clear HO_1; clear HO_2; clear HO_15; clear HO_16; clear HK; clear HB; have HO_1 := n0_; have HO_2 := n1_; have HO_15 := n2_; have HO_16 := n3_; have HO242 := n4_; have HO245 := n5_; have HK := n6_; have HB := n7_; clear n0_ n1_ n2_ n3_ n4_ n5_ n6_ n7_; (try clear hb); (try clear hb2); (try clear hk); (try clear hi); (try clear ho0); (try clear ho1); obtain ⟨Ao31, co31, eo31⟩ := Kd.V_slice HO242.out; subst eo31; obtain ⟨Ao32, co32, eo32⟩ := Kd.V_slice HO245.out; subst eo32) | ((with_reducible refine gate_callee (f := 50) rfl ?_); refine goesL_ (some 76) rfl rfl Try.func50 (by kernel_rfl) rfl #[.slice Ao31 t240.length co31, .slice Ao32 t243.length co32] rfl (by (try simp only [List.map_toArray, List.map_cons, List.map_nil]); first | done | rfl | (simp only [List.length_drop, List.length_take]; rfl)) ?_; (with_reducible refine (vernierref01_Few.calls kj20 (fun k_ => ((P1_ k_ ∨ P2_ k_) ∨ w.heap.size ≤ k_)) _ _ t240 _ _ t243 t246 t247 _ ?side1 ?side2 ?side3 A27.out).mono ?_); (case side1 => exact HO242.out); (case side2 => repeat (first | exact (Kd.V_reads' HO245.out).2.2 | (with_reducible refine Kd.C_alloc ?_ _) | (with_reducible refine Kd.C_drewN ?_ _) | (with_reducible refine Kd.C_drew ?_))); (case side3 => exact (Kd.V_reads' HO245.out).2.1); rintro e w33 ⟨v248, rfl, ho0, hb⟩; refine ⟨_, rfl, ?_⟩; have n0_ := Aside0.mk (Kd.R_below (by (with_reducible repeat (first | apply Kd.R_alloc | apply Kd.R_drewN | apply Kd.R_drew)); exact HO_1.out) hb); have n1_ := Aside0.mk (Kd.R_below (by (with_reducible repeat (first | apply Kd.R_alloc | apply Kd.R_drewN | apply Kd.R_drew)); exact HO_2.out) hb); have n2_ := Aside0.mk (Kd.V_below (by (with_reducible repeat (first | apply Kd.V_alloc | apply Kd.V_drewN | apply Kd.V_drew)); exact HO_15.out) hb); have n3_ := Aside0.mk (Kd.V_below (by (with_reducible repeat (first | apply Kd.V_alloc | apply Kd.V_drewN | apply Kd.V_drew)); exact HO_16.out) hb); have n4_ := Aside0.mk (Kd.V_below (by (with_reducible repeat (first | apply Kd.V_alloc | apply Kd.V_drewN | apply Kd.V_drew)); exact HO242.out) hb); have n5_ := Aside0.mk (Kd.V_below (by (with_reducible repeat (first | apply Kd.V_alloc | apply Kd.V_drewN | apply Kd.V_drew)); exact HO245.out) hb); have n6_ := Aside0.mk (Kd.V_lower (Kd.V_mono (ok' := fun k_ => ((P1_ k_ ∨ P2_ k_) ∨ w.heap.size ≤ k_)) ho0 (fun k_ hk_ => Or.elim hk_ (fun hs_ => hs_) (fun hn_ => (.inr (Nat.le_trans (by first | exact HK.out.1 | exact (show Kept w _ (fun k_ => P1_ k_ ∨ P2_ k_) from by repeat (first | (with_reducible first | exact HK.out | apply Kept.alloc | apply Kept.drewN | apply Kept.drew) | exact HK.out)).1) hn_))))) (below_size (by repeat (first | (with_reducible first | exact HB.out | apply below_alloc | apply pw_below_drewN | apply below_drew1) | exact HB.out)))); have n7_ := Aside0.mk (Kept.below (S := (fun k_ => P1_ k_ ∨ P2_ k_)) (by repeat (first | (with_reducible first | exact HK.out | apply Kept.alloc | apply Kept.drewN | apply Kept.drew) | exact HK.out)) hb); have n8_ := Aside0.mk (below_step (by repeat (first | (with_reducible first | exact HB.out | apply below_alloc | apply pw_below_drewN | apply below_drew1) | exact HB.out)) hb); clear HO_1; clear HO_2; clear HO_15; clear HO_16; clear HO242; clear HO245; clear HK; clear HB; have HO_1 := n0_; have HO_2 := n1_; have HO_15 := n2_; have HO_16 := n3_; have HO242 := n4_; have HO245 := n5_; have HO249 := n6_; have HK := n7_; have HB := n8_; clear n0_ n1_ n2_ n3_ n4_ n5_ n6_ n7_ n8_; (try clear hb); (try clear hb2); (try clear hk); (try clear hi); (try clear ho0)))
                    go_roundg kj20
                    case measure => have := HJ12.out; have := HK2.out; have := HJ20.out; omega
                    case rel => exact ⟨(wrap64 (x13_2 + 1)), (t246), (t247), (t243), (wrap64 (x17_2 + 1)), (by first | rfl | (simp; done) | (simp [*]; done)), (by first | rfl | (simp; done) | (simp [*]; done)), (by first | rfl | (simp; done) | (simp [*]; done)), H', ⟨by have := HJ12.out; have := HK2.out; have := HJ20.out; omega⟩, ⟨by (with_reducible repeat (first | apply Kd.R_alloc | apply Kd.R_drewN | apply Kd.R_drew)); exact HO_1.out⟩, ⟨by (with_reducible repeat (first | apply Kd.R_alloc | apply Kd.R_drewN | apply Kd.R_drew)); exact HO_2.out⟩, ⟨by (with_reducible repeat (first | apply Kd.V_alloc | apply Kd.V_drewN | apply Kd.V_drew)); exact HO249.out⟩, ⟨by (with_reducible repeat (first | apply Kd.V_alloc | apply Kd.V_drewN | apply Kd.V_drew)); exact HO245.out⟩, ⟨by repeat (first | (with_reducible first | exact HK.out | apply Kept.alloc | apply Kept.drewN | apply Kept.drew) | exact HK.out)⟩, ⟨by repeat (first | (with_reducible first | exact HB.out | apply below_alloc | apply pw_below_drewN | apply below_drew1) | exact HB.out)⟩⟩
                  · rw [if_neg c25] at H
                    have c25b0 : decide (0 < x17_2) = false := decide_eq_false c25
                    clear c25
                    replace H := Option.bind_eq_some_iff.mp H
                    obtain ⟨⟨t250, t253⟩, A340, H⟩ := H
                    replace H : ((vernierref01_Few.f kj20 t250 t253).bind fun bt256 => (vernierref06_Round.l0 kj20 a0 x1_12 x2_12 x3_12 a4 x13_2 bt256.1 bt256.2 t253 (wrap64 (x17_2 + 1)))) = some (r1, r2) := H
                    have A34 := Aside0.mk A340
                    clear A340
                    replace H := Option.bind_eq_some_iff.mp H
                    obtain ⟨⟨t256, t257⟩, A350, H⟩ := H
                    replace H : (vernierref06_Round.l0 kj20 a0 x1_12 x2_12 x3_12 a4 x13_2 t256 t257 t253 (wrap64 (x17_2 + 1))) = some (r1, r2) := H
                    have A35 := Aside0.mk A350
                    clear A350
                    have H' := Aside0.mk H
                    clear H
                    obtain ⟨Ao36, co36, eo36⟩ := Kd.R_slice HO_1.out
                    subst eo36
                    obtain ⟨Ao37, co37, eo37⟩ := Kd.R_slice HO_2.out
                    subst eo37
                    go_wp2_with (first | ((with_reducible refine gate_callee (f := 49) rfl ?_); refine goesL_ (some 70) rfl rfl Try.func49 (by kernel_rfl) rfl #[.slice Ao36 x1_12.length co36, .slice Ao37 x2_12.length co37, .int .i64 (wrap64 (x3_12 - x13_2))] rfl (by (try simp only [List.map_toArray, List.map_cons, List.map_nil]); first | done | rfl | (simp only [List.length_drop, List.length_take]; rfl)) ?_; (with_reducible refine (vernierref06_shift.calls kj20 (fun k_ => some k_ = (.slice Ao36 x1_12.length co36 : Value).ownBlock) _ _ x1_12 (fun k_ => some k_ = (.slice Ao37 x2_12.length co37 : Value).ownBlock) _ _ x2_12 (wrap64 (x3_12 - x13_2)) t250 t253 _ ?side1 ?side2 A34.out).mono ?_); (case side1 => exact Kd.R_V (Kd.R_tight rfl (HO_1.out))); (case side2 => exact Kd.R_V (Kd.R_tight rfl (HO_2.out))); rintro e w38 ⟨v251, v254, rfl, ho0, ho1, hb⟩; refine ⟨_, rfl, ?_⟩; have n0_ := Aside0.mk (Kd.R_below (by (with_reducible repeat (first | apply Kd.R_alloc | apply Kd.R_drewN | apply Kd.R_drew)); exact HO_1.out) hb); have n1_ := Aside0.mk (Kd.R_below (by (with_reducible repeat (first | apply Kd.R_alloc | apply Kd.R_drewN | apply Kd.R_drew)); exact HO_2.out) hb); have n2_ := Aside0.mk (Kd.V_below (by (with_reducible repeat (first | apply Kd.V_alloc | apply Kd.V_drewN | apply Kd.V_drew)); exact HO_15.out) hb); have n3_ := Aside0.mk (Kd.V_below (by (with_reducible repeat (first | apply Kd.V_alloc | apply Kd.V_drewN | apply Kd.V_drew)); exact HO_16.out) hb); have n4_ := Aside0.mk (Kd.V_lower (Kd.V_mono (ok' := fun k_ => ((P1_ k_ ∨ P2_ k_) ∨ w.heap.size ≤ k_)) ho0 (fun k_ hk_ => Or.elim hk_ (fun hs_ => Or.elim hs_ (fun hs_ => ((HO_1.out).1 k_ hs_.symm).1) (fun hs_ => ((HO_2.out).1 k_ hs_.symm).1)) (fun hn_ => (.inr (Nat.le_trans (by first | exact HK.out.1 | exact (show Kept w _ (fun k_ => P1_ k_ ∨ P2_ k_) from by repeat (first | (with_reducible first | exact HK.out | apply Kept.alloc | apply Kept.drewN | apply Kept.drew) | exact HK.out)).1) hn_))))) (below_size (by repeat (first | (with_reducible first | exact HB.out | apply below_alloc | apply pw_below_drewN | apply below_drew1) | exact HB.out)))); have n5_ := Aside0.mk (Kd.V_lower (Kd.V_mono (ok' := fun k_ => ((P1_ k_ ∨ P2_ k_) ∨ w.heap.size ≤ k_)) ho1 (fun k_ hk_ => Or.elim hk_ (fun hs_ => Or.elim hs_ (fun hs_ => ((HO_1.out).1 k_ hs_.symm).1) (fun hs_ => ((HO_2.out).1 k_ hs_.symm).1)) (fun hn_ => (.inr (Nat.le_trans (by first | exact HK.out.1 | exact (show Kept w _ (fun k_ => P1_ k_ ∨ P2_ k_) from by repeat (first | (with_reducible first | exact HK.out | apply Kept.alloc | apply Kept.drewN | apply Kept.drew) | exact HK.out)).1) hn_))))) (below_size (by repeat (first | (with_reducible first | exact HB.out | apply below_alloc | apply pw_below_drewN | apply below_drew1) | exact HB.out)))); have n6_ := Aside0.mk (Kept.below (S := (fun k_ => P1_ k_ ∨ P2_ k_)) (by repeat (first | (with_reducible first | exact HK.out | apply Kept.alloc | apply Kept.drewN | apply Kept.drew) | exact HK.out)) hb); have n7_ := Aside0.mk (below_step (by repeat (first | (with_reducible first | exact HB.out | apply below_alloc | apply pw_below_drewN | apply below_drew1) | exact HB.out)) hb); clear HO_1; clear HO_2; clear HO_15; clear HO_16; clear HK; clear HB; have HO_1 := n0_; have HO_2 := n1_; have HO_15 := n2_; have HO_16 := n3_; have HO252 := n4_; have HO255 := n5_; have HK := n6_; have HB := n7_; clear n0_ n1_ n2_ n3_ n4_ n5_ n6_ n7_; (try clear hb); (try clear hb2); (try clear hk); (try clear hi); (try clear ho0); (try clear ho1); obtain ⟨Ao39, co39, eo39⟩ := Kd.V_slice HO252.out; subst eo39; obtain ⟨Ao40, co40, eo40⟩ := Kd.V_slice HO255.out; subst eo40) | ((with_reducible refine gate_callee (f := 50) rfl ?_); refine goesL_ (some 76) rfl rfl Try.func50 (by kernel_rfl) rfl #[.slice Ao39 t250.length co39, .slice Ao40 t253.length co40] rfl (by (try simp only [List.map_toArray, List.map_cons, List.map_nil]); first | done | rfl | (simp only [List.length_drop, List.length_take]; rfl)) ?_; (with_reducible refine (vernierref01_Few.calls kj20 (fun k_ => ((P1_ k_ ∨ P2_ k_) ∨ w.heap.size ≤ k_)) _ _ t250 _ _ t253 t256 t257 _ ?side1 ?side2 ?side3 A35.out).mono ?_); (case side1 => exact HO252.out); (case side2 => repeat (first | exact (Kd.V_reads' HO255.out).2.2 | (with_reducible refine Kd.C_alloc ?_ _) | (with_reducible refine Kd.C_drewN ?_ _) | (with_reducible refine Kd.C_drew ?_))); (case side3 => exact (Kd.V_reads' HO255.out).2.1); rintro e w41 ⟨v258, rfl, ho0, hb⟩; refine ⟨_, rfl, ?_⟩; have n0_ := Aside0.mk (Kd.R_below (by (with_reducible repeat (first | apply Kd.R_alloc | apply Kd.R_drewN | apply Kd.R_drew)); exact HO_1.out) hb); have n1_ := Aside0.mk (Kd.R_below (by (with_reducible repeat (first | apply Kd.R_alloc | apply Kd.R_drewN | apply Kd.R_drew)); exact HO_2.out) hb); have n2_ := Aside0.mk (Kd.V_below (by (with_reducible repeat (first | apply Kd.V_alloc | apply Kd.V_drewN | apply Kd.V_drew)); exact HO_15.out) hb); have n3_ := Aside0.mk (Kd.V_below (by (with_reducible repeat (first | apply Kd.V_alloc | apply Kd.V_drewN | apply Kd.V_drew)); exact HO_16.out) hb); have n4_ := Aside0.mk (Kd.V_below (by (with_reducible repeat (first | apply Kd.V_alloc | apply Kd.V_drewN | apply Kd.V_drew)); exact HO252.out) hb); have n5_ := Aside0.mk (Kd.V_below (by (with_reducible repeat (first | apply Kd.V_alloc | apply Kd.V_drewN | apply Kd.V_drew)); exact HO255.out) hb); have n6_ := Aside0.mk (Kd.V_lower (Kd.V_mono (ok' := fun k_ => ((P1_ k_ ∨ P2_ k_) ∨ w.heap.size ≤ k_)) ho0 (fun k_ hk_ => Or.elim hk_ (fun hs_ => hs_) (fun hn_ => (.inr (Nat.le_trans (by first | exact HK.out.1 | exact (show Kept w _ (fun k_ => P1_ k_ ∨ P2_ k_) from by repeat (first | (with_reducible first | exact HK.out | apply Kept.alloc | apply Kept.drewN | apply Kept.drew) | exact HK.out)).1) hn_))))) (below_size (by repeat (first | (with_reducible first | exact HB.out | apply below_alloc | apply pw_below_drewN | apply below_drew1) | exact HB.out)))); have n7_ := Aside0.mk (Kept.below (S := (fun k_ => P1_ k_ ∨ P2_ k_)) (by repeat (first | (with_reducible first | exact HK.out | apply Kept.alloc | apply Kept.drewN | apply Kept.drew) | exact HK.out)) hb); have n8_ := Aside0.mk (below_step (by repeat (first | (with_reducible first | exact HB.out | apply below_alloc | apply pw_below_drewN | apply below_drew1) | exact HB.out)) hb); clear HO_1; clear HO_2; clear HO_15; clear HO_16; clear HO252; clear HO255; clear HK; clear HB; have HO_1 := n0_; have HO_2 := n1_; have HO_15 := n2_; have HO_16 := n3_; have HO252 := n4_; have HO255 := n5_; have HO259 := n6_; have HK := n7_; have HB := n8_; clear n0_ n1_ n2_ n3_ n4_ n5_ n6_ n7_ n8_; (try clear hb); (try clear hb2); (try clear hk); (try clear hi); (try clear ho0)))
                    go_roundg kj20
                    case measure => have := HJ12.out; have := HK2.out; have := HJ20.out; omega
                    case rel => exact ⟨(x13_2), (t256), (t257), (t253), (wrap64 (x17_2 + 1)), (by first | rfl | (simp; done) | (simp [*]; done)), (by first | rfl | (simp; done) | (simp [*]; done)), (by first | rfl | (simp; done) | (simp [*]; done)), H', ⟨by have := HJ12.out; have := HK2.out; have := HJ20.out; omega⟩, ⟨by (with_reducible repeat (first | apply Kd.R_alloc | apply Kd.R_drewN | apply Kd.R_drew)); exact HO_1.out⟩, ⟨by (with_reducible repeat (first | apply Kd.R_alloc | apply Kd.R_drewN | apply Kd.R_drew)); exact HO_2.out⟩, ⟨by (with_reducible repeat (first | apply Kd.V_alloc | apply Kd.V_drewN | apply Kd.V_drew)); exact HO259.out⟩, ⟨by (with_reducible repeat (first | apply Kd.V_alloc | apply Kd.V_drewN | apply Kd.V_drew)); exact HO255.out⟩, ⟨by repeat (first | (with_reducible first | exact HK.out | apply Kept.alloc | apply Kept.drewN | apply Kept.drew) | exact HK.out)⟩, ⟨by repeat (first | (with_reducible first | exact HB.out | apply below_alloc | apply pw_below_drewN | apply below_drew1) | exact HB.out)⟩⟩
                · replace c24 := Bool.eq_false_iff.mpr c24
                  subst c24
                  have H1 : ((vernierref06_shift.f kj20 x1_12 x2_12 (wrap64 (x3_12 + 1022))).bind fun bt260 => ((vernierref01_Cmp.f kj20 bt260.1 bt260.2).bind fun t266 => ((vernierref01_Shl.f kj20 x15_2 1).bind fun t267 => ((vernierref01_Cmp.f kj20 t267 x16_2).bind fun t270 => (if a4 = 1 then (vernierref06_Round.j3 kj20 a0 a4 x13_2 x14_2 (decide ((x15_2.length : Int) > 0)) (decide (t266 < 0)) (decide (t270 ≥ 0))) else (if a4 = 2 then (vernierref06_Round.j3 kj20 a0 a4 x13_2 x14_2 (decide ((x15_2.length : Int) > 0)) (decide (t266 < 0)) false) else (if a4 = 3 then (if (x15_2.length : Int) > 0 then (vernierref06_Round.j3 kj20 a0 a4 x13_2 x14_2 (decide ((x15_2.length : Int) > 0)) (decide (t266 < 0)) (!a0)) else (vernierref06_Round.j3 kj20 a0 a4 x13_2 x14_2 (decide ((x15_2.length : Int) > 0)) (decide (t266 < 0)) false)) else (if a4 = 4 then (if (x15_2.length : Int) > 0 then (vernierref06_Round.j3 kj20 a0 a4 x13_2 x14_2 (decide ((x15_2.length : Int) > 0)) (decide (t266 < 0)) a0) else (vernierref06_Round.j3 kj20 a0 a4 x13_2 x14_2 (decide ((x15_2.length : Int) > 0)) (decide (t266 < 0)) false)) else (if t270 > 0 then (vernierref06_Round.j3 kj20 a0 a4 x13_2 x14_2 (decide ((x15_2.length : Int) > 0)) (decide (t266 < 0)) true) else (if t270 = 0 then (vernierref06_Round.j3 kj20 a0 a4 x13_2 x14_2 (decide ((x15_2.length : Int) > 0)) (decide (t266 < 0)) ((Int.tmod x14_2 2) == 1)) else (vernierref06_Round.j3 kj20 a0 a4 x13_2 x14_2 (decide ((x15_2.length : Int) > 0)) (decide (t266 < 0)) false))))))))))) = some (r1, r2) := by rw [if_neg (show ¬ (false = true) by decide)] at H; exact H
                  clear H
                  have H := H1
                  clear H1
                  replace H := Option.bind_eq_some_iff.mp H
                  obtain ⟨⟨t260, t263⟩, A420, H⟩ := H
                  replace H : ((vernierref01_Cmp.f kj20 t260 t263).bind fun t266 => ((vernierref01_Shl.f kj20 x15_2 1).bind fun t267 => ((vernierref01_Cmp.f kj20 t267 x16_2).bind fun t270 => (if a4 = 1 then (vernierref06_Round.j3 kj20 a0 a4 x13_2 x14_2 (decide ((x15_2.length : Int) > 0)) (decide (t266 < 0)) (decide (t270 ≥ 0))) else (if a4 = 2 then (vernierref06_Round.j3 kj20 a0 a4 x13_2 x14_2 (decide ((x15_2.length : Int) > 0)) (decide (t266 < 0)) false) else (if a4 = 3 then (if (x15_2.length : Int) > 0 then (vernierref06_Round.j3 kj20 a0 a4 x13_2 x14_2 (decide ((x15_2.length : Int) > 0)) (decide (t266 < 0)) (!a0)) else (vernierref06_Round.j3 kj20 a0 a4 x13_2 x14_2 (decide ((x15_2.length : Int) > 0)) (decide (t266 < 0)) false)) else (if a4 = 4 then (if (x15_2.length : Int) > 0 then (vernierref06_Round.j3 kj20 a0 a4 x13_2 x14_2 (decide ((x15_2.length : Int) > 0)) (decide (t266 < 0)) a0) else (vernierref06_Round.j3 kj20 a0 a4 x13_2 x14_2 (decide ((x15_2.length : Int) > 0)) (decide (t266 < 0)) false)) else (if t270 > 0 then (vernierref06_Round.j3 kj20 a0 a4 x13_2 x14_2 (decide ((x15_2.length : Int) > 0)) (decide (t266 < 0)) true) else (if t270 = 0 then (vernierref06_Round.j3 kj20 a0 a4 x13_2 x14_2 (decide ((x15_2.length : Int) > 0)) (decide (t266 < 0)) ((Int.tmod x14_2 2) == 1)) else (vernierref06_Round.j3 kj20 a0 a4 x13_2 x14_2 (decide ((x15_2.length : Int) > 0)) (decide (t266 < 0)) false)))))))))) = some (r1, r2) := H
                  have A42 := Aside0.mk A420
                  clear A420
                  replace H := Option.bind_eq_some_iff.mp H
                  obtain ⟨t266, A430, H⟩ := H
                  replace H : ((vernierref01_Shl.f kj20 x15_2 1).bind fun t267 => ((vernierref01_Cmp.f kj20 t267 x16_2).bind fun t270 => (if a4 = 1 then (vernierref06_Round.j3 kj20 a0 a4 x13_2 x14_2 (decide ((x15_2.length : Int) > 0)) (decide (t266 < 0)) (decide (t270 ≥ 0))) else (if a4 = 2 then (vernierref06_Round.j3 kj20 a0 a4 x13_2 x14_2 (decide ((x15_2.length : Int) > 0)) (decide (t266 < 0)) false) else (if a4 = 3 then (if (x15_2.length : Int) > 0 then (vernierref06_Round.j3 kj20 a0 a4 x13_2 x14_2 (decide ((x15_2.length : Int) > 0)) (decide (t266 < 0)) (!a0)) else (vernierref06_Round.j3 kj20 a0 a4 x13_2 x14_2 (decide ((x15_2.length : Int) > 0)) (decide (t266 < 0)) false)) else (if a4 = 4 then (if (x15_2.length : Int) > 0 then (vernierref06_Round.j3 kj20 a0 a4 x13_2 x14_2 (decide ((x15_2.length : Int) > 0)) (decide (t266 < 0)) a0) else (vernierref06_Round.j3 kj20 a0 a4 x13_2 x14_2 (decide ((x15_2.length : Int) > 0)) (decide (t266 < 0)) false)) else (if t270 > 0 then (vernierref06_Round.j3 kj20 a0 a4 x13_2 x14_2 (decide ((x15_2.length : Int) > 0)) (decide (t266 < 0)) true) else (if t270 = 0 then (vernierref06_Round.j3 kj20 a0 a4 x13_2 x14_2 (decide ((x15_2.length : Int) > 0)) (decide (t266 < 0)) ((Int.tmod x14_2 2) == 1)) else (vernierref06_Round.j3 kj20 a0 a4 x13_2 x14_2 (decide ((x15_2.length : Int) > 0)) (decide (t266 < 0)) false))))))))) = some (r1, r2) := H
                  have A43 := Aside0.mk A430
                  clear A430
                  replace H := Option.bind_eq_some_iff.mp H
                  obtain ⟨t267, A440, H⟩ := H
                  replace H : ((vernierref01_Cmp.f kj20 t267 x16_2).bind fun t270 => (if a4 = 1 then (vernierref06_Round.j3 kj20 a0 a4 x13_2 x14_2 (decide ((x15_2.length : Int) > 0)) (decide (t266 < 0)) (decide (t270 ≥ 0))) else (if a4 = 2 then (vernierref06_Round.j3 kj20 a0 a4 x13_2 x14_2 (decide ((x15_2.length : Int) > 0)) (decide (t266 < 0)) false) else (if a4 = 3 then (if (x15_2.length : Int) > 0 then (vernierref06_Round.j3 kj20 a0 a4 x13_2 x14_2 (decide ((x15_2.length : Int) > 0)) (decide (t266 < 0)) (!a0)) else (vernierref06_Round.j3 kj20 a0 a4 x13_2 x14_2 (decide ((x15_2.length : Int) > 0)) (decide (t266 < 0)) false)) else (if a4 = 4 then (if (x15_2.length : Int) > 0 then (vernierref06_Round.j3 kj20 a0 a4 x13_2 x14_2 (decide ((x15_2.length : Int) > 0)) (decide (t266 < 0)) a0) else (vernierref06_Round.j3 kj20 a0 a4 x13_2 x14_2 (decide ((x15_2.length : Int) > 0)) (decide (t266 < 0)) false)) else (if t270 > 0 then (vernierref06_Round.j3 kj20 a0 a4 x13_2 x14_2 (decide ((x15_2.length : Int) > 0)) (decide (t266 < 0)) true) else (if t270 = 0 then (vernierref06_Round.j3 kj20 a0 a4 x13_2 x14_2 (decide ((x15_2.length : Int) > 0)) (decide (t266 < 0)) ((Int.tmod x14_2 2) == 1)) else (vernierref06_Round.j3 kj20 a0 a4 x13_2 x14_2 (decide ((x15_2.length : Int) > 0)) (decide (t266 < 0)) false)))))))) = some (r1, r2) := H
                  have A44 := Aside0.mk A440
                  clear A440
                  replace H := Option.bind_eq_some_iff.mp H
                  obtain ⟨t270, A450, H⟩ := H
                  replace H : (if a4 = 1 then (vernierref06_Round.j3 kj20 a0 a4 x13_2 x14_2 (decide ((x15_2.length : Int) > 0)) (decide (t266 < 0)) (decide (t270 ≥ 0))) else (if a4 = 2 then (vernierref06_Round.j3 kj20 a0 a4 x13_2 x14_2 (decide ((x15_2.length : Int) > 0)) (decide (t266 < 0)) false) else (if a4 = 3 then (if (x15_2.length : Int) > 0 then (vernierref06_Round.j3 kj20 a0 a4 x13_2 x14_2 (decide ((x15_2.length : Int) > 0)) (decide (t266 < 0)) (!a0)) else (vernierref06_Round.j3 kj20 a0 a4 x13_2 x14_2 (decide ((x15_2.length : Int) > 0)) (decide (t266 < 0)) false)) else (if a4 = 4 then (if (x15_2.length : Int) > 0 then (vernierref06_Round.j3 kj20 a0 a4 x13_2 x14_2 (decide ((x15_2.length : Int) > 0)) (decide (t266 < 0)) a0) else (vernierref06_Round.j3 kj20 a0 a4 x13_2 x14_2 (decide ((x15_2.length : Int) > 0)) (decide (t266 < 0)) false)) else (if t270 > 0 then (vernierref06_Round.j3 kj20 a0 a4 x13_2 x14_2 (decide ((x15_2.length : Int) > 0)) (decide (t266 < 0)) true) else (if t270 = 0 then (vernierref06_Round.j3 kj20 a0 a4 x13_2 x14_2 (decide ((x15_2.length : Int) > 0)) (decide (t266 < 0)) ((Int.tmod x14_2 2) == 1)) else (vernierref06_Round.j3 kj20 a0 a4 x13_2 x14_2 (decide ((x15_2.length : Int) > 0)) (decide (t266 < 0)) false))))))) = some (r1, r2) := H
                  have A45 := Aside0.mk A450
                  clear A450
                  have HC46 := Aside0.mk H
                  clear H
                  obtain ⟨Ao47, co47, eo47⟩ := Kd.V_slice HO_15.out
                  subst eo47
                  obtain ⟨Ao48, co48, eo48⟩ := Kd.R_slice HO_1.out
                  subst eo48
                  obtain ⟨Ao49, co49, eo49⟩ := Kd.R_slice HO_2.out
                  subst eo49
                  go_upto_block 2 with (first | ((with_reducible refine gate_callee (f := 49) rfl ?_); refine goesL_ (some 88) rfl rfl Try.func49 (by kernel_rfl) rfl #[.slice Ao48 x1_12.length co48, .slice Ao49 x2_12.length co49, .int .i64 (wrap64 (x3_12 + 1022))] rfl (by (try simp only [List.map_toArray, List.map_cons, List.map_nil]); first | done | rfl | (simp only [List.length_drop, List.length_take]; rfl)) ?_; (with_reducible refine (vernierref06_shift.calls kj20 (fun k_ => some k_ = (.slice Ao48 x1_12.length co48 : Value).ownBlock) _ _ x1_12 (fun k_ => some k_ = (.slice Ao49 x2_12.length co49 : Value).ownBlock) _ _ x2_12 (wrap64 (x3_12 + 1022)) t260 t263 _ ?side1 ?side2 A42.out).mono ?_); (case side1 => exact Kd.R_V (Kd.R_tight rfl (HO_1.out))); (case side2 => exact Kd.R_V (Kd.R_tight rfl (HO_2.out))); rintro e w50 ⟨v261, v264, rfl, ho0, ho1, hb⟩; refine ⟨_, rfl, ?_⟩; have n0_ := Aside0.mk (Kd.R_below (by (with_reducible repeat (first | apply Kd.R_alloc | apply Kd.R_drewN | apply Kd.R_drew)); exact HO_1.out) hb); have n1_ := Aside0.mk (Kd.R_below (by (with_reducible repeat (first | apply Kd.R_alloc | apply Kd.R_drewN | apply Kd.R_drew)); exact HO_2.out) hb); have n2_ := Aside0.mk (Kd.V_below (by (with_reducible repeat (first | apply Kd.V_alloc | apply Kd.V_drewN | apply Kd.V_drew)); exact HO_15.out) hb); have n3_ := Aside0.mk (Kd.V_below (by (with_reducible repeat (first | apply Kd.V_alloc | apply Kd.V_drewN | apply Kd.V_drew)); exact HO_16.out) hb); have n4_ := Aside0.mk (Kd.V_lower (Kd.V_mono (ok' := fun k_ => ((P1_ k_ ∨ P2_ k_) ∨ w.heap.size ≤ k_)) ho0 (fun k_ hk_ => Or.elim hk_ (fun hs_ => Or.elim hs_ (fun hs_ => ((HO_1.out).1 k_ hs_.symm).1) (fun hs_ => ((HO_2.out).1 k_ hs_.symm).1)) (fun hn_ => (.inr (Nat.le_trans (by first | exact HK.out.1 | exact (show Kept w _ (fun k_ => P1_ k_ ∨ P2_ k_) from by repeat (first | (with_reducible first | exact HK.out | apply Kept.alloc | apply Kept.drewN | apply Kept.drew) | exact HK.out)).1) hn_))))) (below_size (by repeat (first | (with_reducible first | exact HB.out | apply below_alloc | apply pw_below_drewN | apply below_drew1) | exact HB.out)))); have n5_ := Aside0.mk (Kd.V_lower (Kd.V_mono (ok' := fun k_ => ((P1_ k_ ∨ P2_ k_) ∨ w.heap.size ≤ k_)) ho1 (fun k_ hk_ => Or.elim hk_ (fun hs_ => Or.elim hs_ (fun hs_ => ((HO_1.out).1 k_ hs_.symm).1) (fun hs_ => ((HO_2.out).1 k_ hs_.symm).1)) (fun hn_ => (.inr (Nat.le_trans (by first | exact HK.out.1 | exact (show Kept w _ (fun k_ => P1_ k_ ∨ P2_ k_) from by repeat (first | (with_reducible first | exact HK.out | apply Kept.alloc | apply Kept.drewN | apply Kept.drew) | exact HK.out)).1) hn_))))) (below_size (by repeat (first | (with_reducible first | exact HB.out | apply below_alloc | apply pw_below_drewN | apply below_drew1) | exact HB.out)))); have n6_ := Aside0.mk (Kept.below (S := (fun k_ => P1_ k_ ∨ P2_ k_)) (by repeat (first | (with_reducible first | exact HK.out | apply Kept.alloc | apply Kept.drewN | apply Kept.drew) | exact HK.out)) hb); have n7_ := Aside0.mk (below_step (by repeat (first | (with_reducible first | exact HB.out | apply below_alloc | apply pw_below_drewN | apply below_drew1) | exact HB.out)) hb); clear HO_1; clear HO_2; clear HO_15; clear HO_16; clear HK; clear HB; have HO_1 := n0_; have HO_2 := n1_; have HO_15 := n2_; have HO_16 := n3_; have HO262 := n4_; have HO265 := n5_; have HK := n6_; have HB := n7_; clear n0_ n1_ n2_ n3_ n4_ n5_ n6_ n7_; (try clear hb); (try clear hb2); (try clear hk); (try clear hi); (try clear ho0); (try clear ho1); obtain ⟨Ao51, co51, eo51⟩ := Kd.V_slice HO262.out; subst eo51; obtain ⟨Ao52, co52, eo52⟩ := Kd.V_slice HO265.out; subst eo52) | ((with_reducible refine gate_callee (f := 30) rfl ?_); refine goesL_ (some 93) rfl rfl Try.func30 (by kernel_rfl) rfl #[.slice Ao51 t260.length co51, .slice Ao52 t263.length co52] rfl (by (try simp only [List.map_toArray, List.map_cons, List.map_nil]); first | done | rfl | (simp only [List.length_drop, List.length_take]; rfl)) ?_; (with_reducible refine (vernierref01_Cmp.calls kj20 _ _ t260 _ _ t263 t266 _ ?side1 ?side2 ?side3 ?side4 A43.out).mono ?_); (case side1 => repeat (first | exact (Kd.V_reads' HO262.out).2.2 | (with_reducible refine Kd.C_alloc ?_ _) | (with_reducible refine Kd.C_drewN ?_ _) | (with_reducible refine Kd.C_drew ?_))); (case side2 => exact (Kd.V_reads' HO262.out).2.1); (case side3 => repeat (first | exact (Kd.V_reads' HO265.out).2.2 | (with_reducible refine Kd.C_alloc ?_ _) | (with_reducible refine Kd.C_drewN ?_ _) | (with_reducible refine Kd.C_drew ?_))); (case side4 => exact (Kd.V_reads' HO265.out).2.1); rintro e w' ⟨rfl, ⟨nd, rfl⟩⟩; refine ⟨_, rfl, ?_⟩) | ((with_reducible refine gate_callee (f := 26) rfl ?_); refine goesL_ (some 96) rfl rfl Try.func26 (by kernel_rfl) rfl #[.slice Ao47 x15_2.length co47, .int .i64 1] rfl (by (try simp only [List.map_toArray, List.map_cons, List.map_nil]); first | done | rfl | (simp only [List.length_drop, List.length_take]; rfl)) ?_; (with_reducible refine (vernierref01_Shl.calls kj20 _ _ x15_2 1 t267 _ ?side1 ?side2 A44.out).mono ?_); (case side1 => repeat (first | exact (Kd.V_reads' HO_15.out).2.2 | (with_reducible refine Kd.C_alloc ?_ _) | (with_reducible refine Kd.C_drewN ?_ _) | (with_reducible refine Kd.C_drew ?_))); (case side2 => exact (Kd.V_reads' HO_15.out).2.1); rintro e w53 ⟨v268, rfl, ho0, hb⟩; refine ⟨_, rfl, ?_⟩; have n0_ := Aside0.mk (Kd.R_elder' (by (with_reducible repeat (first | apply Kd.R_alloc | apply Kd.R_drewN | apply Kd.R_drew)); exact HO_1.out) (Kd.R_base ho0) hb); have n1_ := Aside0.mk (Kd.R_elder' (by (with_reducible repeat (first | apply Kd.R_alloc | apply Kd.R_drewN | apply Kd.R_drew)); exact HO_2.out) (Kd.R_base ho0) hb); have n2_ := Aside0.mk (Kd.V_elder' (by (with_reducible repeat (first | apply Kd.V_alloc | apply Kd.V_drewN | apply Kd.V_drew)); exact HO_15.out) (Kd.R_base ho0) hb); have n3_ := Aside0.mk (Kd.V_elder' (by (with_reducible repeat (first | apply Kd.V_alloc | apply Kd.V_drewN | apply Kd.V_drew)); exact HO_16.out) (Kd.R_base ho0) hb); have n4_ := Aside0.mk (Kd.V_elder' (by (with_reducible repeat (first | apply Kd.V_alloc | apply Kd.V_drewN | apply Kd.V_drew)); exact HO262.out) (Kd.R_base ho0) hb); have n5_ := Aside0.mk (Kd.V_elder' (by (with_reducible repeat (first | apply Kd.V_alloc | apply Kd.V_drewN | apply Kd.V_drew)); exact HO265.out) (Kd.R_base ho0) hb); have n6_ := Aside0.mk (Kd.R_lower (Kd.R_new' (Kd.R_new' (Kd.R_newM (M := fun k_ => ((P1_ k_ ∨ P2_ k_) ∨ w.heap.size ≤ k_)) ho0 (by first | exact HK.out.1 | exact (show Kept w _ (fun k_ => P1_ k_ ∨ P2_ k_) from by repeat (first | (with_reducible first | exact HK.out | apply Kept.alloc | apply Kept.drewN | apply Kept.drew) | exact HK.out)).1) (fun k_ h_ => .inr h_)) (Kd.R_lt (by (with_reducible repeat (first | apply Kd.R_alloc | apply Kd.R_drewN | apply Kd.R_drew)); exact HO_1.out))) (Kd.R_lt (by (with_reducible repeat (first | apply Kd.R_alloc | apply Kd.R_drewN | apply Kd.R_drew)); exact HO_2.out))) (below_size (by repeat (first | (with_reducible first | exact HB.out | apply below_alloc | apply pw_below_drewN | apply below_drew1) | exact HB.out)))); have n7_ := Aside0.mk (Kept.below (S := (fun k_ => P1_ k_ ∨ P2_ k_)) (by repeat (first | (with_reducible first | exact HK.out | apply Kept.alloc | apply Kept.drewN | apply Kept.drew) | exact HK.out)) hb); have n8_ := Aside0.mk (below_step (by repeat (first | (with_reducible first | exact HB.out | apply below_alloc | apply pw_below_drewN | apply below_drew1) | exact HB.out)) hb); clear HO_1; clear HO_2; clear HO_15; clear HO_16; clear HO262; clear HO265; clear HK; clear HB; have HO_1 := n0_; have HO_2 := n1_; have HO_15 := n2_; have HO_16 := n3_; have HO262 := n4_; have HO265 := n5_; have HO269 := n6_; have HK := n7_; have HB := n8_; clear n0_ n1_ n2_ n3_ n4_ n5_ n6_ n7_ n8_; (try clear hb); (try clear hb2); (try clear hk); (try clear hi); (try clear ho0); obtain ⟨Ao54, co54, eo54⟩ := Kd.R_slice HO269.out; subst eo54; obtain ⟨Ao55, co55, eo55⟩ := Kd.V_slice HO_16.out; subst eo55) | ((with_reducible refine gate_callee (f := 30) rfl ?_); refine goesL_ (some 98) rfl rfl Try.func30 (by kernel_rfl) rfl #[.slice Ao54 t267.length co54, .slice Ao55 x16_2.length co55] rfl (by (try simp only [List.map_toArray, List.map_cons, List.map_nil]); first | done | rfl | (simp only [List.length_drop, List.length_take]; rfl)) ?_; (with_reducible refine (vernierref01_Cmp.calls kj20 _ _ t267 _ _ x16_2 t270 _ ?side1 ?side2 ?side3 ?side4 A45.out).mono ?_); (case side1 => repeat (first | exact (Kd.R_reads' HO269.out).2.2 | (with_reducible refine Kd.C_alloc ?_ _) | (with_reducible refine Kd.C_drewN ?_ _) | (with_reducible refine Kd.C_drew ?_))); (case side2 => exact (Kd.R_reads' HO269.out).2.1); (case side3 => repeat (first | exact (Kd.V_reads' HO_16.out).2.2 | (with_reducible refine Kd.C_alloc ?_ _) | (with_reducible refine Kd.C_drewN ?_ _) | (with_reducible refine Kd.C_drew ?_))); (case side4 => exact (Kd.V_reads' HO_16.out).2.1); rintro e w' ⟨rfl, ⟨nd, rfl⟩⟩; refine ⟨_, rfl, ?_⟩))
                  (try simp only [Act.put, List.setIfInBounds_toArray, List.set_cons_zero, List.set_cons_succ])
                  go_cut [20, 23, 25] (fun v20 v23 v25 wc => ∃ (kq : Nat) (x20_45 : Bool) (x23_45 : Bool) (x25_45 : Bool), v20 = .bool x20_45 ∧ v23 = .bool x23_45 ∧ v25 = .bool x25_45 ∧ Aside0 (vernierref06_Round.j3 kq a0 a4 x13_2 x14_2 x20_45 x23_45 x25_45 = some (r1, r2)) ∧ Aside0 (kq ≤ kj20) ∧ Aside0 (Kept w wc (fun k_ => P1_ k_ ∨ P2_ k_)) ∧ Aside0 (Below w0.heap.size w0 wc))
                  case first => as_aux_lemma =>
                    have H := HC46.out
                    clear HC46
                    by_cases c56 : a4 = 1
                    · rw [if_pos c56] at H
                      have c56b0 : (a4 == 1) = true := beq_iff_eq.mpr c56
                      have c56b1 : (a4 != 1) = false := bne_eq_false_iff_eq.mpr c56
                      clear c56
                      (first | rw [c56b0] | (simp only [i64_w, i32_w]; rw [c56b0]) | skip)
                      have H' := Aside0.mk H
                      clear H
                      go_wp2
                      go_meet
                      case rel => exact ⟨_, (decide ((x15_2.length : Int) > 0)), (decide (t266 < 0)), (decide (t270 ≥ 0)), (by first | rfl | (simp; done) | (simp [*]; done)), (by first | rfl | (simp; done) | (simp [*]; done)), (by first | rfl | (simp; done) | (simp [*]; done)), H', ⟨by have := HJ12.out; have := HK2.out; have := HJ20.out; first | omega | exact Nat.le_refl _⟩, ⟨by repeat (first | (with_reducible first | exact HK.out | apply Kept.alloc | apply Kept.drewN | apply Kept.drew) | exact HK.out)⟩, ⟨by repeat (first | (with_reducible first | exact HB.out | apply below_alloc | apply pw_below_drewN | apply below_drew1) | exact HB.out)⟩⟩
                    · rw [if_neg c56] at H
                      have c56b0 : (a4 == 1) = false := beq_eq_false_iff_ne.mpr c56
                      have c56b1 : (a4 != 1) = true := bne_iff_ne.mpr c56
                      (first | rw [c56b0] | (simp only [i64_w, i32_w]; rw [c56b0]) | skip)
                      by_cases c57 : a4 = 2
                      · rw [if_pos c57] at H
                        have c57b0 : (a4 == 2) = true := beq_iff_eq.mpr c57
                        have c57b1 : (a4 != 2) = false := bne_eq_false_iff_eq.mpr c57
                        clear c57
                        have H' := Aside0.mk H
                        clear H
                        go_wp2
                        go_meet
                        case rel => exact ⟨_, (decide ((x15_2.length : Int) > 0)), (decide (t266 < 0)), (false), (by first | rfl | (simp; done) | (simp [*]; done)), (by first | rfl | (simp; done) | (simp [*]; done)), (by first | rfl | (simp; done) | (simp [*]; done)), H', ⟨by have := HJ12.out; have := HK2.out; have := HJ20.out; first | omega | exact Nat.le_refl _⟩, ⟨by repeat (first | (with_reducible first | exact HK.out | apply Kept.alloc | apply Kept.drewN | apply Kept.drew) | exact HK.out)⟩, ⟨by repeat (first | (with_reducible first | exact HB.out | apply below_alloc | apply pw_below_drewN | apply below_drew1) | exact HB.out)⟩⟩
                      · rw [if_neg c57] at H
                        have c57b0 : (a4 == 2) = false := beq_eq_false_iff_ne.mpr c57
                        have c57b1 : (a4 != 2) = true := bne_iff_ne.mpr c57
                        by_cases c58 : a4 = 3
                        · rw [if_pos c58] at H
                          have c58b0 : (a4 == 3) = true := beq_iff_eq.mpr c58
                          have c58b1 : (a4 != 3) = false := bne_eq_false_iff_eq.mpr c58
                          clear c58
                          by_cases c59 : (x15_2.length : Int) > 0
                          · rw [if_pos c59] at H
                            have c59b0 : decide (0 < (x15_2.length : Int)) = true := decide_eq_true c59
                            have c59b1 : decide (0 < x15_2.length) = true := decide_eq_true (by omega)
                            clear c59
                            have H' := Aside0.mk H
                            clear H
                            go_wp2
                            go_meet
                            case rel => exact ⟨_, (decide ((x15_2.length : Int) > 0)), (decide (t266 < 0)), (!a0), (by first | rfl | (simp; done) | (simp [*]; done)), (by first | rfl | (simp; done) | (simp [*]; done)), (by first | rfl | (simp; done) | (simp [*]; done)), H', ⟨by have := HJ12.out; have := HK2.out; have := HJ20.out; first | omega | exact Nat.le_refl _⟩, ⟨by repeat (first | (with_reducible first | exact HK.out | apply Kept.alloc | apply Kept.drewN | apply Kept.drew) | exact HK.out)⟩, ⟨by repeat (first | (with_reducible first | exact HB.out | apply below_alloc | apply pw_below_drewN | apply below_drew1) | exact HB.out)⟩⟩
                          · rw [if_neg c59] at H
                            have c59b0 : decide (0 < (x15_2.length : Int)) = false := decide_eq_false c59
                            have c59b1 : decide (0 < x15_2.length) = false := decide_eq_false (by omega)
                            clear c59
                            have H' := Aside0.mk H
                            clear H
                            go_wp2
                            go_meet
                            case rel => exact ⟨_, (decide ((x15_2.length : Int) > 0)), (decide (t266 < 0)), (false), (by first | rfl | (simp; done) | (simp [*]; done)), (by first | rfl | (simp; done) | (simp [*]; done)), (by first | rfl | (simp; done) | (simp [*]; done)), H', ⟨by have := HJ12.out; have := HK2.out; have := HJ20.out; first | omega | exact Nat.le_refl _⟩, ⟨by repeat (first | (with_reducible first | exact HK.out | apply Kept.alloc | apply Kept.drewN | apply Kept.drew) | exact HK.out)⟩, ⟨by repeat (first | (with_reducible first | exact HB.out | apply below_alloc | apply pw_below_drewN | apply below_drew1) | exact HB.out)⟩⟩
                        · rw [if_neg c58] at H
                          have c58b0 : (a4 == 3) = false := beq_eq_false_iff_ne.mpr c58
                          have c58b1 : (a4 != 3) = true := bne_iff_ne.mpr c58
                          by_cases c60 : a4 = 4
                          · rw [if_pos c60] at H
                            have c60b0 : (a4 == 4) = true := beq_iff_eq.mpr c60
                            have c60b1 : (a4 != 4) = false := bne_eq_false_iff_eq.mpr c60
                            clear c60
                            by_cases c61 : (x15_2.length : Int) > 0
                            · rw [if_pos c61] at H
                              have c61b0 : decide (0 < (x15_2.length : Int)) = true := decide_eq_true c61
                              have c61b1 : decide (0 < x15_2.length) = true := decide_eq_true (by omega)
                              clear c61
                              have H' := Aside0.mk H
                              clear H
                              go_wp2
                              go_meet
                              case rel => exact ⟨_, (decide ((x15_2.length : Int) > 0)), (decide (t266 < 0)), (a0), (by first | rfl | (simp; done) | (simp [*]; done)), (by first | rfl | (simp; done) | (simp [*]; done)), (by first | rfl | (simp; done) | (simp [*]; done)), H', ⟨by have := HJ12.out; have := HK2.out; have := HJ20.out; first | omega | exact Nat.le_refl _⟩, ⟨by repeat (first | (with_reducible first | exact HK.out | apply Kept.alloc | apply Kept.drewN | apply Kept.drew) | exact HK.out)⟩, ⟨by repeat (first | (with_reducible first | exact HB.out | apply below_alloc | apply pw_below_drewN | apply below_drew1) | exact HB.out)⟩⟩
                            · rw [if_neg c61] at H
                              have c61b0 : decide (0 < (x15_2.length : Int)) = false := decide_eq_false c61
                              have c61b1 : decide (0 < x15_2.length) = false := decide_eq_false (by omega)
                              clear c61
                              have H' := Aside0.mk H
                              clear H
                              go_wp2
                              go_meet
                              case rel => exact ⟨_, (decide ((x15_2.length : Int) > 0)), (decide (t266 < 0)), (false), (by first | rfl | (simp; done) | (simp [*]; done)), (by first | rfl | (simp; done) | (simp [*]; done)), (by first | rfl | (simp; done) | (simp [*]; done)), H', ⟨by have := HJ12.out; have := HK2.out; have := HJ20.out; first | omega | exact Nat.le_refl _⟩, ⟨by repeat (first | (with_reducible first | exact HK.out | apply Kept.alloc | apply Kept.drewN | apply Kept.drew) | exact HK.out)⟩, ⟨by repeat (first | (with_reducible first | exact HB.out | apply below_alloc | apply pw_below_drewN | apply below_drew1) | exact HB.out)⟩⟩
                          · rw [if_neg c60] at H
                            have c60b0 : (a4 == 4) = false := beq_eq_false_iff_ne.mpr c60
                            have c60b1 : (a4 != 4) = true := bne_iff_ne.mpr c60
                            by_cases c62 : t270 > 0
                            · rw [if_pos c62] at H
                              have c62b0 : decide (0 < t270) = true := decide_eq_true c62
                              clear c62
                              have H' := Aside0.mk H
                              clear H
                              go_wp2
                              go_meet
                              case rel => exact ⟨_, (decide ((x15_2.length : Int) > 0)), (decide (t266 < 0)), (true), (by first | rfl | (simp; done) | (simp [*]; done)), (by first | rfl | (simp; done) | (simp [*]; done)), (by first | rfl | (simp; done) | (simp [*]; done)), H', ⟨by have := HJ12.out; have := HK2.out; have := HJ20.out; first | omega | exact Nat.le_refl _⟩, ⟨by repeat (first | (with_reducible first | exact HK.out | apply Kept.alloc | apply Kept.drewN | apply Kept.drew) | exact HK.out)⟩, ⟨by repeat (first | (with_reducible first | exact HB.out | apply below_alloc | apply pw_below_drewN | apply below_drew1) | exact HB.out)⟩⟩
                            · rw [if_neg c62] at H
                              have c62b0 : decide (0 < t270) = false := decide_eq_false c62
                              clear c62
                              by_cases c63 : t270 = 0
                              · rw [if_pos c63] at H
                                have c63b0 : (t270 == 0) = true := beq_iff_eq.mpr c63
                                have c63b1 : (t270 != 0) = false := bne_eq_false_iff_eq.mpr c63
                                clear c63
                                have H' := Aside0.mk H
                                clear H
                                go_wp2
                                go_meet
                                case rel => exact ⟨_, (decide ((x15_2.length : Int) > 0)), (decide (t266 < 0)), (((Int.tmod x14_2 2) == 1)), (by first | rfl | (simp; done) | (simp [*]; done)), (by first | rfl | (simp; done) | (simp [*]; done)), (by first | rfl | (simp; done) | (simp [*]; done)), H', ⟨by have := HJ12.out; have := HK2.out; have := HJ20.out; first | omega | exact Nat.le_refl _⟩, ⟨by repeat (first | (with_reducible first | exact HK.out | apply Kept.alloc | apply Kept.drewN | apply Kept.drew) | exact HK.out)⟩, ⟨by repeat (first | (with_reducible first | exact HB.out | apply below_alloc | apply pw_below_drewN | apply below_drew1) | exact HB.out)⟩⟩
                              · rw [if_neg c63] at H
                                have c63b0 : (t270 == 0) = false := beq_eq_false_iff_ne.mpr c63
                                have c63b1 : (t270 != 0) = true := bne_iff_ne.mpr c63
                                have H' := Aside0.mk H
                                clear H
                                go_wp2
                                go_meet
                                case rel => exact ⟨_, (decide ((x15_2.length : Int) > 0)), (decide (t266 < 0)), (false), (by first | rfl | (simp; done) | (simp [*]; done)), (by first | rfl | (simp; done) | (simp [*]; done)), (by first | rfl | (simp; done) | (simp [*]; done)), H', ⟨by have := HJ12.out; have := HK2.out; have := HJ20.out; first | omega | exact Nat.le_refl _⟩, ⟨by repeat (first | (with_reducible first | exact HK.out | apply Kept.alloc | apply Kept.drewN | apply Kept.drew) | exact HK.out)⟩, ⟨by repeat (first | (with_reducible first | exact HB.out | apply below_alloc | apply pw_below_drewN | apply below_drew1) | exact HB.out)⟩⟩
                  case rest => as_aux_lemma =>
                    clear HC46
                    try clear c1
                    try clear p1
                    try clear c2
                    try clear p2
                    try clear c3
                    try clear c4
                    try clear c5
                    try clear c6
                    try clear p6
                    try clear c9
                    try clear c9b0
                    try clear c16
                    try clear c16b0
                    try clear c22
                    try clear c22b0
                    try clear c23
                    try clear c23b0
                    try clear c23b1
                    try clear c24
                    try clear c25
                    try clear c25b0
                    try clear c26
                    try clear c27
                    try clear c30
                    try clear c48
                    try clear c49
                    try clear c50
                    try clear c56
                    try clear c56b0
                    try clear c56b1
                    try clear c57
                    try clear c57b0
                    try clear c57b1
                    try clear c58
                    try clear c58b0
                    try clear c58b1
                    try clear c59
                    try clear c59b0
                    try clear c59b1
                    try clear c60
                    try clear c60b0
                    try clear c60b1
                    try clear c61
                    try clear c61b0
                    try clear c61b1
                    try clear c62
                    try clear c62b0
                    try clear c63
                    try clear c63b0
                    try clear c63b1
                    try clear p1
                    try clear p2
                    try clear p6
                    obtain ⟨kq, x20_45, x23_45, x25_45, rfl, rfl, rfl, HA, HJ45, HK, HB⟩ := hcut
                    cases kq with
                    | zero => exact absurd HA.out (by simp [vernierref06_Round.j3])
                    | succ kj45 =>
                      have H := HA.out
                      clear HA
                      simp only [vernierref06_Round.j3] at H
                      have HC64 := Aside0.mk H
                      clear H
                      go_upto_if 130 with (fail)
                      go_cut [14, 20, 23] (fun v14 v20 v23 wc => ∃ (kq : Nat) (x14_63 : Int) (x20_63 : Bool) (x23_63 : Bool), v14 = .int .u64 x14_63 ∧ v20 = .bool x20_63 ∧ v23 = .bool x23_63 ∧ Aside0 (vernierref06_Round.j4 kq a0 a4 x13_2 x14_63 x20_63 x23_63 = some (r1, r2)) ∧ Aside0 (kq ≤ kj45) ∧ Aside0 (Kept w wc (fun k_ => P1_ k_ ∨ P2_ k_)) ∧ Aside0 (Below w0.heap.size w0 wc))
                      case first => as_aux_lemma =>
                        have H := HC64.out
                        clear HC64
                        by_cases c65 : x25_45 = true
                        · subst c65
                          have H1 : (vernierref06_Round.j4 kj45 a0 a4 x13_2 (IntKind.u64.wrap (x14_2 + 1)) x20_45 x23_45) = some (r1, r2) := by rw [if_pos rfl] at H; exact H
                          clear H
                          have H := H1
                          clear H1
                          have H' := Aside0.mk H
                          clear H
                          go_wp2
                          go_meet
                          case rel => exact ⟨_, (IntKind.u64.wrap (x14_2 + 1)), (x20_45), (x23_45), (by first | rfl | (simp; done) | (simp [*]; done)), (by first | rfl | (simp; done) | (simp [*]; done)), (by first | rfl | (simp; done) | (simp [*]; done)), H', ⟨by have := HJ12.out; have := HK2.out; have := HJ20.out; have := HJ45.out; first | omega | exact Nat.le_refl _⟩, ⟨by repeat (first | (with_reducible first | exact HK.out | apply Kept.alloc | apply Kept.drewN | apply Kept.drew) | exact HK.out)⟩, ⟨by repeat (first | (with_reducible first | exact HB.out | apply below_alloc | apply pw_below_drewN | apply below_drew1) | exact HB.out)⟩⟩
                        · replace c65 := Bool.eq_false_iff.mpr c65
                          subst c65
                          have H1 : (vernierref06_Round.j4 kj45 a0 a4 x13_2 x14_2 x20_45 x23_45) = some (r1, r2) := by rw [if_neg (show ¬ (false = true) by decide)] at H; exact H
                          clear H
                          have H := H1
                          clear H1
                          have H' := Aside0.mk H
                          clear H
                          go_wp2
                          go_meet
                          case rel => exact ⟨_, (x14_2), (x20_45), (x23_45), (by first | rfl | (simp; done) | (simp [*]; done)), (by first | rfl | (simp; done) | (simp [*]; done)), (by first | rfl | (simp; done) | (simp [*]; done)), H', ⟨by have := HJ12.out; have := HK2.out; have := HJ20.out; have := HJ45.out; first | omega | exact Nat.le_refl _⟩, ⟨by repeat (first | (with_reducible first | exact HK.out | apply Kept.alloc | apply Kept.drewN | apply Kept.drew) | exact HK.out)⟩, ⟨by repeat (first | (with_reducible first | exact HB.out | apply below_alloc | apply pw_below_drewN | apply below_drew1) | exact HB.out)⟩⟩
                      case rest => as_aux_lemma =>
                        clear HC64
                        try clear c1
                        try clear p1
                        try clear c2
                        try clear p2
                        try clear c3
                        try clear c4
                        try clear c5
                        try clear c6
                        try clear p6
                        try clear c9
                        try clear c9b0
                        try clear c16
                        try clear c16b0
                        try clear c22
                        try clear c22b0
                        try clear c23
                        try clear c23b0
                        try clear c23b1
                        try clear c24
                        try clear c25
                        try clear c25b0
                        try clear c26
                        try clear c27
                        try clear c30
                        try clear c48
                        try clear c49
                        try clear c50
                        try clear c56
                        try clear c56b0
                        try clear c56b1
                        try clear c57
                        try clear c57b0
                        try clear c57b1
                        try clear c58
                        try clear c58b0
                        try clear c58b1
                        try clear c59
                        try clear c59b0
                        try clear c59b1
                        try clear c60
                        try clear c60b0
                        try clear c60b1
                        try clear c61
                        try clear c61b0
                        try clear c61b1
                        try clear c62
                        try clear c62b0
                        try clear c63
                        try clear c63b0
                        try clear c63b1
                        try clear p64
                        try clear c65
                        try clear p1
                        try clear p2
                        try clear p6
                        obtain ⟨kq, x14_63, x20_63, x23_63, rfl, rfl, rfl, HA, HJ63, HK, HB⟩ := hcut
                        cases kq with
                        | zero => exact absurd HA.out (by simp [vernierref06_Round.j4])
                        | succ kj63 =>
                          have H := HA.out
                          clear HA
                          simp only [vernierref06_Round.j4] at H
                          have HC66 := Aside0.mk H
                          clear H
                          go_upto_if 133 with (fail)
                          go_cut [26] (fun v26 wc => ∃ (kq : Nat) (x26_65 : Int), v26 = .int .i64 x26_65 ∧ Aside0 (vernierref06_Round.j5 kq a0 a4 x13_2 x14_63 x26_65 = some (r1, r2)) ∧ Aside0 (kq ≤ kj63) ∧ Aside0 (Kept w wc (fun k_ => P1_ k_ ∨ P2_ k_)) ∧ Aside0 (Below w0.heap.size w0 wc))
                          case first => as_aux_lemma =>
                            have H := HC66.out
                            clear HC66
                            by_cases c67 : x20_63 = true
                            · subst c67
                              have H1 : (if x23_63 = true then (vernierref06_Round.j5 kj63 a0 a4 x13_2 x14_63 24) else (vernierref06_Round.j5 kj63 a0 a4 x13_2 x14_63 16)) = some (r1, r2) := by rw [if_pos rfl] at H; exact H
                              clear H
                              have H := H1
                              clear H1
                              by_cases c68 : x23_63 = true
                              · subst c68
                                have H1 : (vernierref06_Round.j5 kj63 a0 a4 x13_2 x14_63 24) = some (r1, r2) := by rw [if_pos rfl] at H; exact H
                                clear H
                                have H := H1
                                clear H1
                                have H' := Aside0.mk H
                                clear H
                                go_wp2
                                go_meet
                                case rel => exact ⟨_, (24), (by first | rfl | (simp; done) | (simp [*]; done)), H', ⟨by have := HJ12.out; have := HK2.out; have := HJ20.out; have := HJ45.out; have := HJ63.out; first | omega | exact Nat.le_refl _⟩, ⟨by repeat (first | (with_reducible first | exact HK.out | apply Kept.alloc | apply Kept.drewN | apply Kept.drew) | exact HK.out)⟩, ⟨by repeat (first | (with_reducible first | exact HB.out | apply below_alloc | apply pw_below_drewN | apply below_drew1) | exact HB.out)⟩⟩
                              · replace c68 := Bool.eq_false_iff.mpr c68
                                subst c68
                                have H1 : (vernierref06_Round.j5 kj63 a0 a4 x13_2 x14_63 16) = some (r1, r2) := by rw [if_neg (show ¬ (false = true) by decide)] at H; exact H
                                clear H
                                have H := H1
                                clear H1
                                have H' := Aside0.mk H
                                clear H
                                go_wp2
                                go_meet
                                case rel => exact ⟨_, (16), (by first | rfl | (simp; done) | (simp [*]; done)), H', ⟨by have := HJ12.out; have := HK2.out; have := HJ20.out; have := HJ45.out; have := HJ63.out; first | omega | exact Nat.le_refl _⟩, ⟨by repeat (first | (with_reducible first | exact HK.out | apply Kept.alloc | apply Kept.drewN | apply Kept.drew) | exact HK.out)⟩, ⟨by repeat (first | (with_reducible first | exact HB.out | apply below_alloc | apply pw_below_drewN | apply below_drew1) | exact HB.out)⟩⟩
                            · replace c67 := Bool.eq_false_iff.mpr c67
                              subst c67
                              have H1 : (vernierref06_Round.j5 kj63 a0 a4 x13_2 x14_63 0) = some (r1, r2) := by rw [if_neg (show ¬ (false = true) by decide)] at H; exact H
                              clear H
                              have H := H1
                              clear H1
                              have H' := Aside0.mk H
                              clear H
                              go_wp2
                              go_meet
                              case rel => exact ⟨_, (0), (by first | rfl | (simp; done) | (simp [*]; done)), H', ⟨by have := HJ12.out; have := HK2.out; have := HJ20.out; have := HJ45.out; have := HJ63.out; first | omega | exact Nat.le_refl _⟩, ⟨by repeat (first | (with_reducible first | exact HK.out | apply Kept.alloc | apply Kept.drewN | apply Kept.drew) | exact HK.out)⟩, ⟨by repeat (first | (with_reducible first | exact HB.out | apply below_alloc | apply pw_below_drewN | apply below_drew1) | exact HB.out)⟩⟩
                          case rest => as_aux_lemma =>
                            clear HC66
                            try clear c1
                            try clear p1
                            try clear c2
                            try clear p2
                            try clear c3
                            try clear c4
                            try clear c5
                            try clear c6
                            try clear p6
                            try clear c9
                            try clear c9b0
                            try clear c16
                            try clear c16b0
                            try clear c22
                            try clear c22b0
                            try clear c23
                            try clear c23b0
                            try clear c23b1
                            try clear c24
                            try clear c25
                            try clear c25b0
                            try clear c26
                            try clear c27
                            try clear c30
                            try clear c48
                            try clear c49
                            try clear c50
                            try clear c56
                            try clear c56b0
                            try clear c56b1
                            try clear c57
                            try clear c57b0
                            try clear c57b1
                            try clear c58
                            try clear c58b0
                            try clear c58b1
                            try clear c59
                            try clear c59b0
                            try clear c59b1
                            try clear c60
                            try clear c60b0
                            try clear c60b1
                            try clear c61
                            try clear c61b0
                            try clear c61b1
                            try clear c62
                            try clear c62b0
                            try clear c63
                            try clear c63b0
                            try clear c63b1
                            try clear p64
                            try clear c65
                            try clear c67
                            try clear c68
                            try clear p1
                            try clear p2
                            try clear p6
                            try clear p64
                            obtain ⟨kq, x26_65, rfl, HA, HJ65, HK, HB⟩ := hcut
                            cases kq with
                            | zero => exact absurd HA.out (by simp [vernierref06_Round.j5])
                            | succ kj65 =>
                              have H := HA.out
                              clear HA
                              simp only [vernierref06_Round.j5] at H
                              have HC69 := Aside0.mk H
                              clear H
                              go_upto_if 136 with (fail)
                              go_cut [13, 14] (fun v13 v14 wc => ∃ (kq : Nat) (x13_68 : Int) (x14_68 : Int), v13 = .int .i64 x13_68 ∧ v14 = .int .u64 x14_68 ∧ Aside0 (vernierref06_Round.j6 kq a0 a4 x13_68 x14_68 x26_65 = some (r1, r2)) ∧ Aside0 (kq ≤ kj65) ∧ Aside0 (Kept w wc (fun k_ => P1_ k_ ∨ P2_ k_)) ∧ Aside0 (Below w0.heap.size w0 wc))
                              case first => as_aux_lemma =>
                                have H := HC69.out
                                clear HC69
                                by_cases c70 : x14_63 ≥ 9007199254740992
                                · rw [if_pos c70] at H
                                  have c70b0 : decide (9007199254740992 ≤ x14_63) = true := decide_eq_true c70
                                  clear c70
                                  (first | rw [c70b0] | (simp only [i64_w, i32_w]; rw [c70b0]) | skip)
                                  have H' := Aside0.mk H
                                  clear H
                                  go_wp2
                                  go_meet
                                  case rel => exact ⟨_, (wrap64 (x13_2 + 1)), (IntKind.u64.wrap (Int.tdiv x14_63 2)), (by first | rfl | (simp; done) | (simp [*]; done)), (by first | rfl | (simp; done) | (simp [*]; done)), H', ⟨by have := HJ12.out; have := HK2.out; have := HJ20.out; have := HJ45.out; have := HJ63.out; have := HJ65.out; first | omega | exact Nat.le_refl _⟩, ⟨by repeat (first | (with_reducible first | exact HK.out | apply Kept.alloc | apply Kept.drewN | apply Kept.drew) | exact HK.out)⟩, ⟨by repeat (first | (with_reducible first | exact HB.out | apply below_alloc | apply pw_below_drewN | apply below_drew1) | exact HB.out)⟩⟩
                                · rw [if_neg c70] at H
                                  have c70b0 : decide (9007199254740992 ≤ x14_63) = false := decide_eq_false c70
                                  clear c70
                                  (first | rw [c70b0] | (simp only [i64_w, i32_w]; rw [c70b0]) | skip)
                                  have H' := Aside0.mk H
                                  clear H
                                  go_wp2
                                  go_meet
                                  case rel => exact ⟨_, (x13_2), (x14_63), (by first | rfl | (simp; done) | (simp [*]; done)), (by first | rfl | (simp; done) | (simp [*]; done)), H', ⟨by have := HJ12.out; have := HK2.out; have := HJ20.out; have := HJ45.out; have := HJ63.out; have := HJ65.out; first | omega | exact Nat.le_refl _⟩, ⟨by repeat (first | (with_reducible first | exact HK.out | apply Kept.alloc | apply Kept.drewN | apply Kept.drew) | exact HK.out)⟩, ⟨by repeat (first | (with_reducible first | exact HB.out | apply below_alloc | apply pw_below_drewN | apply below_drew1) | exact HB.out)⟩⟩
                              case rest => as_aux_lemma =>
                                clear HC69
                                try clear c1
                                try clear p1
                                try clear c2
                                try clear p2
                                try clear c3
                                try clear c4
                                try clear c5
                                try clear c6
                                try clear p6
                                try clear c7
                                try clear c9
                                try clear c9b0
                                try clear c16
                                try clear c16b0
                                try clear c22
                                try clear c22b0
                                try clear c23
                                try clear c23b0
                                try clear c23b1
                                try clear c24
                                try clear c25
                                try clear c25b0
                                try clear c26
                                try clear c27
                                try clear c30
                                try clear c48
                                try clear c49
                                try clear c50
                                try clear c56
                                try clear c56b0
                                try clear c56b1
                                try clear c57
                                try clear c57b0
                                try clear c57b1
                                try clear c58
                                try clear c58b0
                                try clear c58b1
                                try clear c59
                                try clear c59b0
                                try clear c59b1
                                try clear c60
                                try clear c60b0
                                try clear c60b1
                                try clear c61
                                try clear c61b0
                                try clear c61b1
                                try clear c62
                                try clear c62b0
                                try clear c63
                                try clear c63b0
                                try clear c63b1
                                try clear p64
                                try clear c65
                                try clear c67
                                try clear c68
                                try clear c70
                                try clear c70b0
                                try clear p1
                                try clear p2
                                try clear p6
                                try clear p64
                                obtain ⟨kq, x13_68, x14_68, rfl, rfl, HA, HJ68, HK, HB⟩ := hcut
                                cases kq with
                                | zero => exact absurd HA.out (by simp [vernierref06_Round.j6])
                                | succ kj68 =>
                                  have H := HA.out
                                  clear HA
                                  simp only [vernierref06_Round.j6] at H
                                  have HC71 := Aside0.mk H
                                  clear H
                                  go_upto_region 42 with (fail)
                                  go_cut [146] (fun v146 wc => ∃ (kq : Nat) (x146_70 : Bool), v146 = .bool x146_70 ∧ Aside0 (vernierref06_Round.j7 kq a0 a4 x13_68 x14_68 x26_65 x146_70 = some (r1, r2)) ∧ Aside0 (kq ≤ kj68) ∧ Aside0 (Kept w wc (fun k_ => P1_ k_ ∨ P2_ k_)) ∧ Aside0 (Below w0.heap.size w0 wc))
                                  case first => as_aux_lemma =>
                                    have H := HC71.out
                                    clear HC71
                                    by_cases c72 : x14_68 ≥ 4503599627370496
                                    · rw [if_pos c72] at H
                                      have c72b0 : decide (4503599627370496 ≤ x14_68) = true := decide_eq_true c72
                                      clear c72
                                      (first | rw [c72b0] | (simp only [i64_w, i32_w]; rw [c72b0]) | skip)
                                      have H' := Aside0.mk H
                                      clear H
                                      go_wp2
                                      go_meet
                                      case rel => exact ⟨_, (decide (x13_68 > 971)), (by first | rfl | (simp; done) | (simp [*]; done)), H', ⟨by have := HJ12.out; have := HK2.out; have := HJ20.out; have := HJ45.out; have := HJ63.out; have := HJ65.out; have := HJ68.out; first | omega | exact Nat.le_refl _⟩, ⟨by repeat (first | (with_reducible first | exact HK.out | apply Kept.alloc | apply Kept.drewN | apply Kept.drew) | exact HK.out)⟩, ⟨by repeat (first | (with_reducible first | exact HB.out | apply below_alloc | apply pw_below_drewN | apply below_drew1) | exact HB.out)⟩⟩
                                    · rw [if_neg c72] at H
                                      have c72b0 : decide (4503599627370496 ≤ x14_68) = false := decide_eq_false c72
                                      clear c72
                                      (first | rw [c72b0] | (simp only [i64_w, i32_w]; rw [c72b0]) | skip)
                                      have H' := Aside0.mk H
                                      clear H
                                      go_wp2
                                      go_meet
                                      case rel => exact ⟨_, (false), (by first | rfl | (simp; done) | (simp [*]; done)), H', ⟨by have := HJ12.out; have := HK2.out; have := HJ20.out; have := HJ45.out; have := HJ63.out; have := HJ65.out; have := HJ68.out; first | omega | exact Nat.le_refl _⟩, ⟨by repeat (first | (with_reducible first | exact HK.out | apply Kept.alloc | apply Kept.drewN | apply Kept.drew) | exact HK.out)⟩, ⟨by repeat (first | (with_reducible first | exact HB.out | apply below_alloc | apply pw_below_drewN | apply below_drew1) | exact HB.out)⟩⟩
                                  case rest => as_aux_lemma =>
                                    clear HC71
                                    try clear c1
                                    try clear p1
                                    try clear c2
                                    try clear p2
                                    try clear c3
                                    try clear c4
                                    try clear c5
                                    try clear c6
                                    try clear p6
                                    try clear c7
                                    try clear c9
                                    try clear c9b0
                                    try clear c16
                                    try clear c16b0
                                    try clear c22
                                    try clear c22b0
                                    try clear c23
                                    try clear c23b0
                                    try clear c23b1
                                    try clear c24
                                    try clear c25
                                    try clear c25b0
                                    try clear c26
                                    try clear c27
                                    try clear c30
                                    try clear c48
                                    try clear c49
                                    try clear c50
                                    try clear c56
                                    try clear c56b0
                                    try clear c56b1
                                    try clear c57
                                    try clear c57b0
                                    try clear c57b1
                                    try clear c58
                                    try clear c58b0
                                    try clear c58b1
                                    try clear c59
                                    try clear c59b0
                                    try clear c59b1
                                    try clear c60
                                    try clear c60b0
                                    try clear c60b1
                                    try clear c61
                                    try clear c61b0
                                    try clear c61b1
                                    try clear c62
                                    try clear c62b0
                                    try clear c63
                                    try clear c63b0
                                    try clear c63b1
                                    try clear p64
                                    try clear c65
                                    try clear c67
                                    try clear c68
                                    try clear c70
                                    try clear c70b0
                                    try clear c72
                                    try clear c72b0
                                    try clear p1
                                    try clear p2
                                    try clear p6
                                    try clear p64
                                    obtain ⟨kq, x146_70, rfl, HA, HJ70, HK, HB⟩ := hcut
                                    cases kq with
                                    | zero => exact absurd HA.out (by simp [vernierref06_Round.j7])
                                    | succ kj70 =>
                                      have H := HA.out
                                      clear HA
                                      simp only [vernierref06_Round.j7] at H
                                      by_cases c73 : x146_70 = true
                                      · subst c73
                                        have H1 : ((vernierref06_big.f kj70 a0 a4).bind fun bt271 => (some (bt271.1, bt271.2))) = some (r1, r2) := by rw [if_pos rfl] at H; exact H
                                        clear H
                                        have H := H1
                                        clear H1
                                        replace H := Option.bind_eq_some_iff.mp H
                                        obtain ⟨⟨t271, t272⟩, A740, H⟩ := H
                                        replace H : (some (t271, t272)) = some (r1, r2) := H
                                        have A74 := Aside0.mk A740
                                        clear A740
                                        simp only [Option.some.injEq, Prod.mk.injEq] at H
                                        obtain ⟨rfl, rfl⟩ := H
                                        go_wp2_with (first | ((with_reducible refine gate_callee (f := 48) rfl ?_); refine goesL_ (some 149) rfl rfl Try.func48 (by kernel_rfl) rfl #[.bool a0, .int .i64 a4] rfl (by (try simp only [List.map_toArray, List.map_cons, List.map_nil]); first | done | rfl | (simp only [List.length_drop, List.length_take]; rfl)) ?_; (with_reducible refine (vernierref06_big.calls kj70 a0 a4 t271 t272 _ A74.out).mono ?_); rintro e w' ⟨rfl, ⟨nd, rfl⟩⟩; refine ⟨_, rfl, ?_⟩))
                                        go_ret2
                                        exact ⟨by first | rfl | (simp [errW_none, errW_some] <;> rfl) | (simp only [← hji8]; first | rfl | (simp [errW_none, errW_some] <;> rfl)) | (simp [*, errW_none, errW_some] <;> rfl), by repeat (first | (with_reducible first | exact HB.out | apply below_alloc | apply pw_below_drewN | apply below_drew1) | exact HB.out), by repeat (first | (with_reducible first | exact HK.out | apply Kept.alloc | apply Kept.drewN | apply Kept.drew) | exact HK.out)⟩
                                      · replace c73 := Bool.eq_false_iff.mpr c73
                                        subst c73
                                        have H1 : (if x14_68 < 4503599627370496 then ((vernierref06_Zero.f a0).bind fun t273 => (some (IntKind.u64.wrap (t273 + x14_68), x26_65))) else ((vernierref06_Zero.f a0).bind fun t274 => (some (IntKind.u64.wrap ((IntKind.u64.wrap ((IntKind.u64.wrap (t274 + (IntKind.u64.wrap ((IntKind.u64.wrap (wrap64 (x13_68 + 1075))) * 4503599627370496)))) + x14_68)) - 4503599627370496), x26_65)))) = some (r1, r2) := by rw [if_neg (show ¬ (false = true) by decide)] at H; exact H
                                        clear H
                                        have H := H1
                                        clear H1
                                        by_cases c75 : x14_68 < 4503599627370496
                                        · rw [if_pos c75] at H
                                          have c75b0 : decide (x14_68 < 4503599627370496) = true := decide_eq_true c75
                                          clear c75
                                          replace H := Option.bind_eq_some_iff.mp H
                                          obtain ⟨t273, A760, H⟩ := H
                                          replace H : (some (IntKind.u64.wrap (t273 + x14_68), x26_65)) = some (r1, r2) := H
                                          have A76 := Aside0.mk A760
                                          clear A760
                                          simp only [Option.some.injEq, Prod.mk.injEq] at H
                                          obtain ⟨rfl, rfl⟩ := H
                                          go_wp2_with (first | ((with_reducible refine gate_callee (f := 20) rfl ?_); refine goesL_ (some 155) rfl rfl Try.func20 (by kernel_rfl) rfl #[.bool a0] rfl (by (try simp only [List.map_toArray, List.map_cons, List.map_nil]); first | done | rfl | (simp only [List.length_drop, List.length_take]; rfl)) ?_; (with_reducible refine (vernierref06_Zero.calls a0 t273 _ A76.out).mono ?_); rintro e w' ⟨rfl, ⟨nd, rfl⟩⟩; refine ⟨_, rfl, ?_⟩))
                                          go_ret2
                                          exact ⟨by first | rfl | (simp [errW_none, errW_some] <;> rfl) | (simp only [← hji8]; first | rfl | (simp [errW_none, errW_some] <;> rfl)) | (simp [*, errW_none, errW_some] <;> rfl), by repeat (first | (with_reducible first | exact HB.out | apply below_alloc | apply pw_below_drewN | apply below_drew1) | exact HB.out), by repeat (first | (with_reducible first | exact HK.out | apply Kept.alloc | apply Kept.drewN | apply Kept.drew) | exact HK.out)⟩
                                        · rw [if_neg c75] at H
                                          have c75b0 : decide (x14_68 < 4503599627370496) = false := decide_eq_false c75
                                          clear c75
                                          replace H := Option.bind_eq_some_iff.mp H
                                          obtain ⟨t274, A770, H⟩ := H
                                          replace H : (some (IntKind.u64.wrap ((IntKind.u64.wrap ((IntKind.u64.wrap (t274 + (IntKind.u64.wrap ((IntKind.u64.wrap (wrap64 (x13_68 + 1075))) * 4503599627370496)))) + x14_68)) - 4503599627370496), x26_65)) = some (r1, r2) := H
                                          have A77 := Aside0.mk A770
                                          clear A770
                                          simp only [Option.some.injEq, Prod.mk.injEq] at H
                                          obtain ⟨rfl, rfl⟩ := H
                                          go_wp2_with (first | ((with_reducible refine gate_callee (f := 20) rfl ?_); refine goesL_ (some 160) rfl rfl Try.func20 (by kernel_rfl) rfl #[.bool a0] rfl (by (try simp only [List.map_toArray, List.map_cons, List.map_nil]); first | done | rfl | (simp only [List.length_drop, List.length_take]; rfl)) ?_; (with_reducible refine (vernierref06_Zero.calls a0 t274 _ A77.out).mono ?_); rintro e w' ⟨rfl, ⟨nd, rfl⟩⟩; refine ⟨_, rfl, ?_⟩))
                                          go_ret2
                                          exact ⟨by first | rfl | (simp [errW_none, errW_some] <;> rfl) | (simp only [← hji8]; first | rfl | (simp [errW_none, errW_some] <;> rfl)) | (simp [*, errW_none, errW_some] <;> rfl), by repeat (first | (with_reducible first | exact HB.out | apply below_alloc | apply pw_below_drewN | apply below_drew1) | exact HB.out), by repeat (first | (with_reducible first | exact HK.out | apply Kept.alloc | apply Kept.drewN | apply Kept.drew) | exact HK.out)⟩

end Go.Proofs.Ytklkebbdjppnkaa.PFsqrtNear
