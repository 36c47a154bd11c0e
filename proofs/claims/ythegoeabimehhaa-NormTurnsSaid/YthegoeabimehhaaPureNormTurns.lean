/- vernierlaw23.NormTurns: transposed, columns are rows; signs are of no matter. -/
import Derived.Test.YthegoeabimehhaaPNormTurnsx1
import Derived.Test.YthegoeabimehhaaPNormTurnsx2
import Derived.Test.YthegoeabimehhaaPNormTurnsx5
import Derived.Test.YthegoeabimehhaaPNormTurnsx6
import Derived.Test.YthegoeabimehhaaPNormTurnsx7
import Derived.Laws.BitsLemmas
import Derived.Laws.BitsAllLaws
namespace Go.Proofs.Ythegoeabimehhaa.Pure
open Go.RowKit Go.Proofs.Ythegoeabimehhaa.PNormTurns Go.Proofs.YthegoeabimehhaaW.PrintWords Go.Proofs.YthegoeabimehhaaW.PrintLast Go.Proofs.YthegoeabimehhaaW.PrintMore
-- Whole numbers that fit; places in a matrix; lists made of a function.
theorem w64 {x : Int} (h0 : -9223372036854775808 ≤ x) (h1 : x < 9223372036854775808) : wrap64 x = x := by unfold wrap64; omega
theorem wN (n : Nat) (h : n < 9223372036854775808) : wrap64 (n : Int) = (n : Int) := w64 (by omega) (by omega)
theorem wmul (a b : Nat) (h : a * b < 9223372036854775808) : wrap64 ((a : Int) * (b : Int)) = ((a * b : Nat) : Int) := by rw [← Int.natCast_mul]; exact wN _ h
theorem wadd (a b : Nat) (h : a + b < 9223372036854775808) : wrap64 ((a : Int) + (b : Int)) = ((a + b : Nat) : Int) := by rw [← Int.natCast_add]; exact wN _ h
theorem wsucc (a : Nat) (h : a + 1 < 9223372036854775808) : wrap64 ((a : Int) + 1) = ((a + 1 : Nat) : Int) := wadd a 1 h
theorem place_lt {i j r c : Nat} (hi : i < r) (hj : j < c) : i * c + j < r * c := by
  have : (i + 1) * c ≤ r * c := Nat.mul_le_mul_right c hi
  rw [Nat.add_mul, Nat.one_mul] at this; omega
theorem place_div {i j c : Nat} (hj : j < c) : (i * c + j) / c = i := by
  rw [Nat.mul_comm, Nat.mul_add_div (by omega), Nat.div_eq_of_lt hj, Nat.add_zero]
theorem place_mod {i j c : Nat} (hj : j < c) : (i * c + j) % c = j := by
  rw [Nat.mul_comm, Nat.mul_add_mod, Nat.mod_eq_of_lt hj]
theorem place_of (k c : Nat) : k / c * c + k % c = k := by rw [Nat.mul_comm]; exact Nat.div_add_mod k c
theorem div_lt_of {k r c : Nat} (h : k < r * c) : k / c < r := Nat.div_lt_of_lt_mul (by rw [Nat.mul_comm]; exact h)
theorem mod_lt_of {k r c : Nat} (h : k < r * c) : k % c < c := Nat.mod_lt _ (by rcases Nat.eq_zero_or_pos c with rfl | h' <;> omega)
def mk (n : Nat) (f : Nat → Int) : List Int := (List.range n).map f
theorem mk_len (n : Nat) (f : Nat → Int) : (mk n f).length = n := by simp [mk]
theorem mk_get (n : Nat) (f : Nat → Int) (k : Nat) (h : k < n) : (mk n f).getD k 0 = f k := by
  simp [mk, List.getD_eq_getElem?_getD, h]
theorem rd_mk (n : Nat) (f : Nat → Int) (k : Nat) (h : k < n) : rd (mk n f) (k : Int) = f k := mk_get n f k h
theorem rd_nat (l : List Int) (k : Nat) : rd l (k : Int) = l.getD k 0 := rfl
theorem mk_congr {n : Nat} {f g : Nat → Int} (h : ∀ k, k < n → f k = g k) : mk n f = mk n g := List.map_congr_left (fun k hk => h k (List.mem_range.1 hk))
theorem mk_set (n : Nat) (f : Nat → Int) (p : Nat) (v : Int) : (mk n f).set p v = mk n (fun k => if k = p then v else f k) := by
  apply List.ext_getElem
  · simp [mk]
  · intro i h1 h2
    simp only [mk, List.length_set, List.length_map, List.length_range] at h1
    rw [List.getElem_set]
    simp only [mk, List.getElem_map, List.getElem_range]
    by_cases e : p = i
    · subst e; simp
    · rw [if_neg e, if_neg (fun h => e h.symm)]
theorem mk_const (n : Nat) (v : Int) : List.replicate n v = mk n (fun _ => v) := by
  apply List.ext_getElem
  · simp [mk]
  · intro i h1 h2; simp [mk]
theorem mk_self (l : List Int) : mk l.length (fun k => l.getD k 0) = l := by
  apply List.ext_getElem
  · simp [mk]
  · intro i h1 h2
    simp only [mk, List.getElem_map, List.getElem_range]
    rw [List.getD_eq_getElem?_getD, List.getElem?_eq_getElem h2]; rfl
theorem mk_eq {n : Nat} {f : Nat → Int} {l : List Int} (hl : l.length = n) (h : ∀ k, k < n → l.getD k 0 = f k) : l = mk n f := by
  subst hl
  exact (mk_self l).symm.trans (mk_congr h)
theorem Ev.no {α : Type} {g : Nat → Option α} {r : α} (h : ∀ k, g (k + 1) = some r) : Ev g r := Ev.step (f := fun _ => some r) h (Ev.now r)
-- Words of 64 bits: masks and joins.
theorem wraps_u64 (n : Int) (h₀ : 0 ≤ n) (h₁ : n < 2 ^ 64) : IntKind.u64.wrap n = n := by rw [IntKind.wrap_u64]; omega
theorem mask64 (i : Nat) (hi : i ≤ 64) (x : Int) (h0 : 0 ≤ x) (h1 : x < 18446744073709551616) : Go.bits .and .u64 x (2 ^ i - 1) = x % 2 ^ i :=
  bits_mask .u64 64 (by decide) wraps_u64 i hi x h0 (by omega)
theorem and2047 {x : Int} (h0 : 0 ≤ x) (h1 : x < 18446744073709551616) : Go.bits .and .u64 x 2047 = x % 2048 := by have := mask64 11 (by omega) x h0 h1; simpa using this
theorem and52 {x : Int} (h0 : 0 ≤ x) (h1 : x < 18446744073709551616) : Go.bits .and .u64 x 4503599627370495 = x % 4503599627370496 := by have := mask64 52 (by omega) x h0 h1; simpa using this
theorem and1_u64 {x : Int} (h0 : 0 ≤ x) (h1 : x < 18446744073709551616) : Go.bits .and .u64 x 1 = x % 2 := by have := mask64 1 (by omega) x h0 h1; simpa using this
theorem and63 {x : Int} (h0 : 0 ≤ x) (h1 : x < 18446744073709551616) : Go.bits .and .u64 x 9223372036854775808 = x / 9223372036854775808 * 9223372036854775808 := by
  obtain ⟨a, rfl⟩ := Int.eq_ofNat_of_zero_le h0
  have h := u64_and_nat a 9223372036854775808 (by omega) (by omega)
  rw [show ((9223372036854775808 : Nat) : Int) = 9223372036854775808 from rfl] at h
  rw [h, nat_hi64_63]; omega
theorem or64_join (i : Nat) (y x : Int) (hy : 0 ≤ y) (hy' : y < 2 ^ i) (hx : 0 ≤ x) (hx' : x % 2 ^ i = 0) (h1 : y < 18446744073709551616) (h2 : x < 18446744073709551616) : Go.bits .or .u64 y x = y + x ∧ Go.bits .or .u64 x y = x + y := by
  have h := bits_join .u64 64 (by decide) wraps_u64 i x y hx hx' (by omega) hy hy' (by omega)
  refine ⟨?_, h⟩
  obtain ⟨a, rfl⟩ := Int.eq_ofNat_of_zero_le hy
  obtain ⟨b, rfl⟩ := Int.eq_ofNat_of_zero_le hx
  rw [u64_or_nat b a (by omega) (by omega)] at h
  rw [u64_or_nat a b (by omega) (by omega), Nat.or_comm, h]; omega
theorem or52 {y : Int} (h0 : 0 ≤ y) (h1 : y < 4503599627370496) : Go.bits .or .u64 y 4503599627370496 = y + 4503599627370496 :=
  (or64_join 52 y 4503599627370496 h0 (by omega) (by omega) (by decide) (by omega) (by omega)).1
def bl (a : Nat) : Nat := if h : a = 0 then 0 else bl (a / 2) + 1
termination_by a
decreasing_by omega
theorem bl_zero : bl 0 = 0 := by rw [bl]; rfl
theorem bl_pos {a : Nat} (h : a ≠ 0) : bl a = bl (a / 2) + 1 := by rw [bl]; simp [h]
theorem lt_bl : ∀ a : Nat, a < 2 ^ bl a := by
  intro a
  induction a using Nat.strongRecOn with
  | _ a ih =>
    by_cases h : a = 0
    · subst h; rw [bl_zero]; decide
    · rw [bl_pos h, Nat.pow_succ]
      have := ih (a / 2) (by omega)
      omega
theorem le_bl {a : Nat} (h : a ≠ 0) : 2 ^ (bl a - 1) ≤ a := by
  induction a using Nat.strongRecOn with
  | _ a ih =>
    rw [bl_pos h, Nat.add_sub_cancel]
    by_cases g : a / 2 = 0
    · rw [g, bl_zero]; simp; omega
    · have h1 := ih (a / 2) (by omega) g
      have h2 : bl (a / 2) = bl (a / 2) - 1 + 1 := by rw [bl_pos g]; omega
      rw [h2, Nat.pow_succ]; omega
theorem bl_le {a n : Nat} (h : a < 2 ^ n) : bl a ≤ n := by
  by_cases g : a = 0
  · subst g; rw [bl_zero]; omega
  · have := Nat.lt_of_le_of_lt (le_bl g) h
    have := (Nat.pow_lt_pow_iff_right (a := 2) (by omega)).1 this
    omega
theorem bl_gt {a n : Nat} (h : 2 ^ n ≤ a) : n < bl a := (Nat.pow_lt_pow_iff_right (a := 2) (by omega)).1 (Nat.lt_of_le_of_lt h (lt_bl a))
theorem bl_eq {a n : Nat} (h : 2 ^ n ≤ a) (h' : a < 2 ^ (n + 1)) : bl a = n + 1 := by have := bl_gt h; have := bl_le h'; omega
-- A binary64 number's parts, and what the printed functions of them come to.
def E (a : Int) : Int := a / 4503599627370496 % 2048
def F (a : Int) : Int := a % 4503599627370496
def cls (a : Int) : Int := if E a = 2047 then (if F a = 0 then 2 else 3) else if E a = 0 ∧ F a = 0 then 0 else 1
def sg (a : Int) : Int := if E a = 0 then F a else F a + 4503599627370496
def ex (a : Int) : Int := if E a = 0 then -1074 else E a - 1075
def neg (a : Int) : Bool := decide (a ≥ 9223372036854775808)
theorem E_bd (a : Int) : 0 ≤ E a ∧ E a < 2048 := by unfold E; omega
theorem F_bd (a : Int) : 0 ≤ F a ∧ F a < 4503599627370496 := by unfold F; omega
theorem u64_bd {a : Int} (h : (Lit.int .u64 a).wf = true) : 0 ≤ a ∧ a < 18446744073709551616 := by
  have := (by simpa [Lit.wf, IntKind.min, IntKind.max, IntKind.bits, IntKind.signed] using h : 0 ≤ a ∧ a ≤ 18446744073709551615); omega
theorem i64_bd {a : Int} (h : (Lit.int .i64 a).wf = true) : -9223372036854775808 ≤ a ∧ a < 9223372036854775808 := by
  have := (by simpa [Lit.wf, IntKind.min, IntKind.max, IntKind.bits, IntKind.signed] using h : -9223372036854775808 ≤ a ∧ a ≤ 9223372036854775807); omega
theorem expo {a : Int} (h0 : 0 ≤ a) (h1 : a < 18446744073709551616) : Go.bits .and .u64 (a / 4503599627370496) 2047 = E a := and2047 (by omega) (by omega)
theorem refE {a : Int} (h0 : 0 ≤ a) (h1 : a < 18446744073709551616) : Int.tmod (IntKind.u64.wrap (Int.tdiv a 4503599627370496)) 2048 = E a := by
  rw [Int.tdiv_eq_ediv_of_nonneg h0, wraps_u64 _ (by omega) (by omega), Int.tmod_eq_emod_of_nonneg (by omega)]; rfl
theorem refF {a : Int} (h0 : 0 ≤ a) : Int.tmod a 4503599627370496 = F a := by rw [Int.tmod_eq_emod_of_nonneg h0]; rfl
theorem class_ev {a : Int} (h0 : 0 ≤ a) (h1 : a < 18446744073709551616) : Ev (fun k => parts_Class.f k a) (cls a) := by
  have hf := F_bd a
  have key : ∀ x, Ev (fun k => parts_Class.j0 k (E a) (F a) x) (if x = true then 3 else if E a = 2047 then 2 else if E a = 0 ∧ F a = 0 then 0 else 1) := fun x => by
    refine Ev.no (fun k => ?_)
    simp only [parts_Class.j0]
    by_cases hx : x = true
    · rw [if_pos hx, if_pos hx]
    rw [if_neg hx, if_neg hx]
    by_cases h2 : E a = 2047
    · rw [if_pos h2, if_pos h2]
    rw [if_neg h2, if_neg h2]
    by_cases h3 : E a = 0
    · rw [if_pos h3]
      by_cases h4 : F a = 0
      · rw [if_pos h4, if_pos ⟨h3, h4⟩]
      · rw [if_neg h4, if_neg (fun h => h4 h.2)]
    · rw [if_neg h3, if_neg (fun h => h3 h.1)]
  refine Ev.congr (f := fun k => parts_Class.j0 k (E a) (F a) (decide (E a = 2047 ∧ F a ≠ 0))) (fun k => ?_) ?_
  · unfold parts_Class.f
    rw [expo h0 h1, and52 h0 h1]
    by_cases h2 : E a = 2047
    · rw [if_pos h2]; congr 1
      rw [Bool.eq_iff_iff]; simp [h2]; rfl
    · rw [if_neg h2]; simp [h2]; rfl
  · have := key (decide (E a = 2047 ∧ F a ≠ 0))
    unfold cls
    by_cases h2 : E a = 2047
    · by_cases h3 : F a = 0
      · simp [h2, h3] at this ⊢; exact this
      · simp [h2, h3] at this ⊢; exact this
    · simp [h2] at this ⊢; exact this
theorem negb {a : Int} (h0 : 0 ≤ a) (h1 : a < 18446744073709551616) : (Go.bits .and .u64 a 9223372036854775808 != 0) = neg a := by
  rw [and63 h0 h1]; unfold neg
  rw [Bool.eq_iff_iff, bne_iff_ne, decide_eq_true_iff]; omega
theorem split_eq {a : Int} (h0 : 0 ≤ a) (h1 : a < 18446744073709551616) : parts_Split.f a = some (if E a = 2047 then (false, 0, 0, 23) else (neg a, sg a, ex a, 0)) := by
  have he := E_bd a
  have hf := F_bd a
  unfold parts_Split.f
  rw [expo h0 h1, w64 (by omega) (by omega), negb h0 h1, and52 h0 h1]
  by_cases h2 : E a = 2047
  · rw [if_pos h2, if_pos h2]
  · rw [if_neg h2, if_neg h2]
    unfold sg ex
    by_cases h3 : E a = 0
    · rw [if_pos h3, if_pos h3, if_pos h3]; rfl
    · rw [if_neg h3, if_neg h3, if_neg h3, or52 (by omega) (by omega), w64 (by omega) (by omega)]; rfl
-- A natural of two words: how many bits, its shifts, its cut.
theorem bitLenAux_bl : ∀ (f a : Nat), a < 2 ^ f → Lib.bitLenAux f a = bl a := by
  intro f
  induction f with
  | zero => intro a h; obtain rfl : a = 0 := by simpa using h
            rw [bl_zero]; rfl
  | succ f ih =>
    intro a h
    by_cases g : a = 0
    · subst g; rw [bl_zero]; rfl
    · rw [Nat.pow_succ] at h
      rw [bl_pos g, Lib.bitLenAux, if_neg g, ih (a / 2) (by omega), Nat.add_comm]
theorem bitLen_bl {a : Nat} (h : a < 18446744073709551616) : Lib.bitLen a = bl a := bitLenAux_bl 64 a (by simpa using h)
theorem len64 {a : Nat} (h : a < 18446744073709551616) : bits_Len64.f (a : Int) = some (bl a : Int) := by
  unfold bits_Len64.f
  rw [if_pos (by omega), Int.toNat_natCast, bitLen_bl h]
theorem bl64 {a : Nat} (h : a < 18446744073709551616) : bl a ≤ 64 := bl_le (by simpa using h)
theorem bl_wide {h l : Nat} (hl : l < 18446744073709551616) (g : h ≠ 0) : bl (h * 18446744073709551616 + l) = 64 + bl h := by
  have h1 := lt_bl h
  have h2 := le_bl g
  have h3 : bl h = bl h - 1 + 1 := by rw [bl_pos g]; omega
  generalize bl h - 1 = b at *
  rw [h3] at h1 ⊢
  have e : (2 : Nat) ^ (64 + b) = 18446744073709551616 * 2 ^ b := by rw [Nat.pow_add]
  have e' : (2 : Nat) ^ (64 + b + 1) = 18446744073709551616 * 2 ^ (b + 1) := by rw [Nat.add_assoc, Nat.pow_add]
  rw [bl_eq (n := 64 + b)]
  · omega
  · rw [e]; omega
  · rw [e']; omega
theorem wlen {h l : Nat} (hh : h < 18446744073709551616) (hl : l < 18446744073709551616) : parts_wide_len.f (h : Int) (l : Int) = some (bl (h * 18446744073709551616 + l) : Int) := by
  unfold parts_wide_len.f
  by_cases g : h = 0
  · subst g
    rw [if_pos (by rfl), len64 hl, Nat.zero_mul, Nat.zero_add]; rfl
  · have := bl64 hh
    rw [if_neg (by omega), len64 hh, bl_wide hl g]
    simp only [Option.bind_some]
    rw [w64 (by omega) (by omega)]; congr 1
theorem p64 {n : Nat} (h : n ≤ 64) : (2 : Nat) ^ n * 2 ^ (64 - n) = 18446744073709551616 := by rw [← Nat.pow_add, show n + (64 - n) = 64 by omega]
theorem shr_nat {h n : Nat} (hn : n ≤ 64) : shr .u64 (h : Int) (n : Int) = ((h / 2 ^ n : Nat) : Int) := by
  unfold shr
  rw [Int.toNat_natCast, show min n IntKind.u64.bits = n from Nat.min_eq_left hn, Int.natCast_ediv, Int.natCast_pow]; rfl
theorem shl_nat {h n : Nat} (hn : n ≤ 64) : shl .u64 (h : Int) (n : Int) = ((h * 2 ^ n % 18446744073709551616 : Nat) : Int) := by
  unfold shl
  rw [Int.toNat_natCast, show min n IntKind.u64.bits = n from Nat.min_eq_left hn, IntKind.wrap_u64, Int.natCast_emod, Int.natCast_mul, Int.natCast_pow]; rfl
theorem wshr {h l n : Nat} (hh : h < 18446744073709551616) (hl : l < 18446744073709551616) :
    parts_wide_shr.f (h : Int) (l : Int) (n : Int) = some ((((h * 18446744073709551616 + l) / 2 ^ n / 18446744073709551616 : Nat) : Int), (((h * 18446744073709551616 + l) / 2 ^ n % 18446744073709551616 : Nat) : Int)) := by
  unfold parts_wide_shr.f
  by_cases h1 : 128 ≤ n
  · rw [if_pos (by omega)]
    have : (h * 18446744073709551616 + l) / 2 ^ n = 0 := Nat.div_eq_of_lt (Nat.lt_of_lt_of_le (show _ < 2 ^ 128 by omega) (Nat.pow_le_pow_right (by omega) h1))
    rw [this]; rfl
  rw [if_neg (by omega)]
  by_cases h2 : 64 ≤ n
  · rw [if_pos (by omega), w64 (by omega) (by omega), if_pos (by omega), show (n : Int) - 64 = ((n - 64 : Nat) : Int) by omega, shr_nat (by omega)]
    have e : (h * 18446744073709551616 + l) / 2 ^ n = h / 2 ^ (n - 64) := by
      rw [show (2 : Nat) ^ n = 18446744073709551616 * 2 ^ (n - 64) by rw [show (18446744073709551616 : Nat) = 2 ^ 64 by decide, ← Nat.pow_add]; congr 1; omega, ← Nat.div_div_eq_div_mul]
      congr 1; omega
    have e2 : h / 2 ^ (n - 64) < 18446744073709551616 := Nat.lt_of_le_of_lt (Nat.div_le_self _ _) hh
    rw [e, Nat.div_eq_of_lt e2, Nat.mod_eq_of_lt e2]; rfl
  rw [if_neg (by omega)]
  by_cases h3 : n = 0
  · subst h3
    rw [if_pos (by rfl), Nat.pow_zero, Nat.div_one, show (h * 18446744073709551616 + l) / 18446744073709551616 = h by omega, show (h * 18446744073709551616 + l) % 18446744073709551616 = l by omega]
  rw [if_neg (by omega), if_pos (by omega), w64 (by omega) (by omega), if_pos (by omega), show (64 : Int) - (n : Int) = ((64 - n : Nat) : Int) by omega, shr_nat (by omega), shr_nat (by omega), shl_nat (by omega)]
  have hp := p64 (n := n) (by omega)
  have hA : 0 < 2 ^ n := Nat.pow_pos (by omega)
  have hM : 0 < 2 ^ (64 - n) := Nat.pow_pos (by omega)
  have hk : (2 : Int) ^ (64 - n) = ((2 ^ (64 - n) : Nat) : Int) := by rw [Int.natCast_pow]; rfl
  have hj := or64_join (64 - n) ((l / 2 ^ n : Nat) : Int) ((h * 2 ^ (64 - n) % 18446744073709551616 : Nat) : Int)
  rw [hk] at hj
  generalize 2 ^ (64 - n) = M at *
  generalize 2 ^ n = A at *
  have e1 : (h * 18446744073709551616 + l) / A = h * M + l / A := by
    rw [← hp, show h * (A * M) + l = l + A * (h * M) by rw [Nat.mul_left_comm, Nat.add_comm], Nat.add_mul_div_left _ _ hA, Nat.add_comm]
  have e2 : l / A < M := Nat.div_lt_of_lt_mul (by rw [hp]; exact hl)
  have e3 : h * M % (A * M) = h % A * M := Nat.mul_mod_mul_right _ _ _
  have e4 : (h * M + l / A) / (A * M) = h / A := by
    rw [Nat.mul_comm A M, ← Nat.div_div_eq_div_mul, Nat.add_comm, Nat.add_mul_div_right _ _ hM, Nat.div_eq_of_lt e2, Nat.zero_add]
  have e5 : (h * M + l / A) % (A * M) = h % A * M + l / A := by
    have d1 := Nat.div_add_mod (h * M + l / A) (A * M)
    rw [e4] at d1
    have d2 := Nat.div_add_mod h A
    have d3 : A * M * (h / A) + h % A * M = h * M := by
      conv => rhs; rw [← d2]
      rw [Nat.add_mul, Nat.mul_right_comm]
    omega
  have hlt : h % A * M < A * M := Nat.mul_lt_mul_of_pos_right (Nat.mod_lt _ hA) hM
  rw [e1]
  rw [hp] at e3 e4 e5 hlt
  rw [e4, e5]
  rw [e3] at hj ⊢
  have hd : l / A ≤ l := Nat.div_le_self _ _
  generalize l / A = y at *
  have z0 : 0 ≤ ((h % A * M : Nat) : Int) := Int.natCast_nonneg _
  have z1 : ((h % A * M : Nat) : Int) % (M : Int) = 0 := by rw [← Int.natCast_emod, Nat.mul_mod_left]; rfl
  generalize h % A * M = x at *
  have := (hj (by omega) (by omega) z0 z1 (by omega) (by omega)).1
  rw [this, ← Int.natCast_add, Nat.add_comm]
theorem pow_dvd_mod {W i m : Nat} (h : i < m) (hb : W / 2 ^ i % 2 = 1) : W % 2 ^ m ≠ 0 := by
  intro e
  obtain ⟨c, rfl⟩ := Nat.dvd_of_mod_eq_zero e
  rw [show (2 : Nat) ^ m = 2 ^ i * (2 * 2 ^ (m - i - 1)) by rw [← Nat.pow_succ', ← Nat.pow_add]; congr 1; omega, Nat.mul_assoc, Nat.mul_div_cancel_left _ (Nat.pow_pos (by omega)), Nat.mul_assoc] at hb
  omega
theorem wshrW {h l n W : Nat} (hW : h * 18446744073709551616 + l = W) (hh : h < 18446744073709551616) (hl : l < 18446744073709551616) :
    parts_wide_shr.f (h : Int) (l : Int) (n : Int) = some (((W / 2 ^ n / 18446744073709551616 : Nat) : Int), ((W / 2 ^ n % 18446744073709551616 : Nat) : Int)) := by
  rw [wshr hh hl, hW]
theorem wcut_l {h l W : Nat} (hW : h * 18446744073709551616 + l = W) (hh : h < 18446744073709551616) (hl : l < 18446744073709551616) (q : Int) (half : Bool) (m : Nat) (hm : m ≤ 128) :
    ∀ j i : Nat, j + i = m → W % 2 ^ i = 0 → Ev (fun k => parts_wide_cut.l0 k q half m i h l) (q, half, decide (W % 2 ^ m ≠ 0)) := by
  intro j
  induction j with
  | zero =>
    intro i hi hz
    obtain rfl : i = m := by omega
    refine Ev.no (fun k => ?_)
    simp only [parts_wide_cut.l0]
    rw [if_neg (by omega), hz]; rfl
  | succ j ih =>
    intro i hi hz
    have a1 : Go.bits .and .u64 ((W / 2 ^ i % 18446744073709551616 : Nat) : Int) 1 = ((W / 2 ^ i % 2 : Nat) : Int) := by
      generalize W / 2 ^ i = z at *
      rw [and1_u64 (by omega) (by omega)]; omega
    by_cases hb : W / 2 ^ i % 2 = 1
    · refine Ev.no (fun k => ?_)
      simp only [parts_wide_cut.l0]
      rw [if_pos (by omega), wshrW hW hh hl]
      simp only [Option.bind_some]
      rw [a1, hb, if_pos (by rfl), decide_eq_true (pow_dvd_mod (by omega) hb)]
    · refine Ev.step (f := fun k => parts_wide_cut.l0 k q half m ((i + 1 : Nat) : Int) h l) (fun k => ?_) (ih (i + 1) (by omega) ?_)
      · simp only [parts_wide_cut.l0]
        rw [if_pos (by omega), wshrW hW hh hl]
        simp only [Option.bind_some]
        rw [a1, if_neg (by omega), wsucc _ (by omega)]
      · rw [Nat.pow_succ, Nat.mod_mul, hz, show W / 2 ^ i % 2 = 0 by omega, Nat.mul_zero]
theorem cut_pos {h l d W : Nat} (hW : h * 18446744073709551616 + l = W) (hh : h < 18446744073709551616) (hl : l < 18446744073709551616) (hd : 0 < d) (hd' : d < 1000000) :
    Ev (fun k => parts_wide_cut.f k h l d) (((W / 2 ^ d % 18446744073709551616 : Nat) : Int), decide (W / 2 ^ (d - 1) % 2 = 1), decide (W % 2 ^ (d - 1) ≠ 0)) := by
  have a1 : Go.bits .and .u64 ((W / 2 ^ (d - 1) % 18446744073709551616 : Nat) : Int) 1 = ((W / 2 ^ (d - 1) % 2 : Nat) : Int) := by
    generalize W / 2 ^ (d - 1) = z
    rw [and1_u64 (by omega) (by omega)]; omega
  have a2 : (((W / 2 ^ (d - 1) % 2 : Nat) : Int) == 1) = decide (W / 2 ^ (d - 1) % 2 = 1) := by
    generalize W / 2 ^ (d - 1) = z
    rw [Bool.eq_iff_iff, beq_iff_eq, decide_eq_true_iff]; omega
  have hw : wrap64 ((d : Int) - 1) = ((d - 1 : Nat) : Int) := by rw [w64 (by omega) (by omega)]; omega
  have hmin : mn ((d - 1 : Nat) : Int) 128 = ((min (d - 1) 128 : Nat) : Int) := by unfold mn; first | omega | (split <;> omega)
  have he : (W % 2 ^ (min (d - 1) 128) ≠ 0) = (W % 2 ^ (d - 1) ≠ 0) := by
    by_cases g : d - 1 ≤ 128
    · rw [Nat.min_eq_left g]
    · rw [Nat.min_eq_right (by omega), Nat.mod_eq_of_lt (show _ < 2 ^ 128 by omega), Nat.mod_eq_of_lt (Nat.lt_of_lt_of_le (show _ < 2 ^ 128 by omega) (Nat.pow_le_pow_right (by omega) (by omega)))]
  refine Ev.congr (f := fun k => parts_wide_cut.l0 k ((W / 2 ^ d % 18446744073709551616 : Nat) : Int) (decide (W / 2 ^ (d - 1) % 2 = 1)) ((min (d - 1) 128 : Nat) : Int) ((0 : Nat) : Int) h l) (fun k => ?_) ?_
  · unfold parts_wide_cut.f
    rw [if_neg (by omega), wshrW hW hh hl, hw, wshrW hW hh hl]
    simp only [Option.bind_some]
    rw [a1, a2, hmin]; rfl
  · have := wcut_l hW hh hl ((W / 2 ^ d % 18446744073709551616 : Nat) : Int) (decide (W / 2 ^ (d - 1) % 2 = 1)) (min (d - 1) 128) (by omega) (min (d - 1) 128) 0 (by omega) (by rw [Nat.pow_zero, Nat.mod_one])
    simp only [he] at this
    exact this
theorem cut_neg {h l d W : Nat} (e : h * 18446744073709551616 + l = W) (k : Nat) (hl : l < 18446744073709551616) (hd : d ≤ 64) (hW : W * 2 ^ d < 18446744073709551616) :
    parts_wide_cut.f k h l (-(d : Int)) = some (((W * 2 ^ d : Nat) : Int), false, false) := by
  have hp : 1 ≤ 2 ^ d := Nat.pow_pos (by omega)
  have h0 : h = 0 := by
    have := Nat.le_mul_of_pos_right W hp
    omega
  subst h0
  rw [Nat.zero_mul, Nat.zero_add] at e
  subst e
  unfold parts_wide_cut.f
  rw [if_pos (by omega), w64 (by omega) (by omega), if_pos (by omega), show -(-(d : Int)) = (d : Int) by omega, shl_nat hd, Nat.mod_eq_of_lt hW]
-- parts.Round: what comes of a cut; then all of it.
def upP (neg : Bool) (q : Int) (half rest : Bool) (mode : Int) : Bool :=
  if mode = 1 then half else if mode = 2 then false else if mode = 3 then !neg && (half || rest) else if mode = 4 then neg && (half || rest) else half && (rest || decide (q % 2 = 1))
def farP (neg : Bool) (mode : Int) : Bool := decide (mode < 2) || decide (4 < mode) || (decide (mode = 3) && !neg) || (decide (mode = 4) && neg)
def sgn (neg : Bool) : Int := if neg then 9223372036854775808 else 0
def res (neg : Bool) (mode c fl : Int) : Int × Int :=
  if 9218868437227405312 ≤ c then (sgn neg + (if farP neg mode then 9218868437227405312 else 9218868437227405311), 20) else (sgn neg + c, fl)
def fin (neg : Bool) (C : Int) (half rest tiny : Bool) (mode : Int) : Int × Int :=
  res neg mode (C + (if upP neg C half rest mode then 1 else 0)) (if (half || rest) = true then (if tiny = true then 24 else 16) else 0)
def cutP (W : Nat) (d : Int) : Nat × Bool × Bool :=
  if d ≤ 0 then (W * 2 ^ (-d).toNat, false, false) else (W / 2 ^ d.toNat, decide (W / 2 ^ (d.toNat - 1) % 2 = 1), decide (W % 2 ^ (d.toNat - 1) ≠ 0))
def clampP (x : Int) : Int := mn (mx x (-16384)) 16384
theorem clamp_bd (x : Int) : -16384 ≤ clampP x ∧ clampP x ≤ 16384 := by unfold clampP mn mx; split <;> split <;> omega
def eP (n : Nat) (x : Int) : Int := mx (x + n - 53) (-1074)
def roundP (neg : Bool) (W : Nat) (x0 : Int) (more : Bool) (mode : Int) : Int × Int :=
  if W = 0 then (sgn neg, 0) else
  let x := clampP x0
  let e := eP (bl W) x
  let c := cutP W (e - x)
  fin neg ((c.1 : Int) + (e + 1074) * 4503599627370496) c.2.1 (c.2.2 || (more && (decide (55 ≤ bl W) || decide (x ≤ -1080)))) (decide (x + bl W < -1021)) mode
theorem up_eq (neg : Bool) {q : Int} (h0 : 0 ≤ q) (h1 : q < 18446744073709551616) (half rest : Bool) (mode : Int) : parts_up.f neg q half rest mode = some (upP neg q half rest mode) := by
  have hb : (Go.bits .and .u64 q 1 == 1) = decide (q % 2 = 1) := by rw [and1_u64 h0 h1, Bool.eq_iff_iff, beq_iff_eq, decide_eq_true_iff]
  unfold parts_up.f upP
  rw [hb]
  by_cases h1 : mode = 1
  · rw [if_pos h1, if_pos h1]
  rw [if_neg h1, if_neg h1]
  by_cases h2 : mode = 2
  · rw [if_pos h2, if_pos h2]
  rw [if_neg h2, if_neg h2]
  by_cases h3 : mode = 3
  · rw [if_pos h3, if_pos h3]; cases neg <;> cases half <;> rfl
  rw [if_neg h3, if_neg h3]
  by_cases h4 : mode = 4
  · rw [if_pos h4, if_pos h4]; cases neg <;> cases half <;> rfl
  rw [if_neg h4, if_neg h4]
  cases half <;> cases rest <;> rfl
theorem zero_sgn (b : Bool) : parts_Zero.f b = some (sgn b) := by cases b <;> rfl
theorem inf_eq (b : Bool) : parts_Inf.f b = some (sgn b + 9218868437227405312) := by cases b <;> decide +kernel
theorem great_eq (b : Bool) : parts_greatest.f b = some (sgn b + 9218868437227405311) := by cases b <;> decide +kernel
theorem over_j (neg x : Bool) : Ev (fun k => parts_over.j0 k neg x) (sgn neg + (if x then 9218868437227405312 else 9218868437227405311), 20) := by
  refine Ev.no (fun k => ?_)
  simp only [parts_over.j0]
  cases x
  · rw [if_neg (by decide), great_eq]; rfl
  · rw [if_pos rfl, inf_eq]; rfl
theorem over_ev (neg : Bool) (mode : Int) : Ev (fun k => parts_over.f k neg mode) (sgn neg + (if farP neg mode then 9218868437227405312 else 9218868437227405311), 20) := by
  refine Ev.congr (f := fun k => parts_over.j0 k neg (farP neg mode)) (fun k => ?_) (over_j neg _)
  unfold parts_over.f farP
  by_cases h1 : mode < 2
  · rw [if_pos h1]; simp [h1]
  rw [if_neg h1]
  by_cases h2 : mode > 4
  · rw [if_pos h2]; simp [show 4 < mode from h2]
  rw [if_neg h2]
  by_cases h3 : mode = 3
  · subst h3; cases neg <;> rfl
  rw [if_neg h3]
  by_cases h4 : mode = 4
  · subst h4; cases neg <;> rfl
  rw [if_neg h4]; simp [h1, h3, h4, show ¬ 4 < mode from h2]
theorem put_eq (neg : Bool) {q e : Int} (h0 : 0 ≤ q) (h1 : q < 9007199254740992) (h2 : -1074 ≤ e) (h3 : e + 1075 < 2047) (hc : 4503599627370496 ≤ q ∨ e = -1074) :
    parts_put.f neg q e = some (sgn neg + (q + (e + 1074) * 4503599627370496)) := by
  have hs : sgn neg = 0 ∨ sgn neg = 9223372036854775808 := by cases neg <;> simp [sgn]
  unfold parts_put.f
  rw [zero_sgn]
  simp only [Option.bind_some]
  generalize sgn neg = s at *
  by_cases g : q < 4503599627370496
  · rw [if_pos g, (or64_join 52 q s h0 (by omega) (by omega) (by omega) (by omega) (by omega)).2]
    congr 1; omega
  · rw [if_neg g, w64 (by omega) (by omega), wraps_u64 (e + 1075) (by omega) (by omega), wraps_u64 _ (by omega) (by omega), and52 h0 (by omega)]
    have hj : Go.bits .or .u64 s ((e + 1075) * 4503599627370496) = s + (e + 1075) * 4503599627370496 := (or64_join 63 ((e + 1075) * 4503599627370496) s (by omega) (by omega) (by omega) (by omega) (by omega) (by omega)).2
    rw [hj, (or64_join 52 (q % 4503599627370496) (s + (e + 1075) * 4503599627370496) (by omega) (by omega) (by omega) (by omega) (by omega) (by omega)).2]
    congr 1; omega
theorem j6_ev (neg : Bool) (mode : Int) {q e : Int} (fl : Int) (h0 : 0 ≤ q) (h1 : q < 9007199254740992) (h2 : -1074 ≤ e) (hc : 4503599627370496 ≤ q ∨ e = -1074) (x : Bool)
    (hx : x = decide (9218868437227405312 ≤ q + (e + 1074) * 4503599627370496)) :
    Ev (fun k => parts_Round.j6 k neg mode e q fl x) (res neg mode (q + (e + 1074) * 4503599627370496) fl) := by
  unfold res
  by_cases g : 9218868437227405312 ≤ q + (e + 1074) * 4503599627370496
  · rw [if_pos g]
    refine Ev.step (f := fun k => (parts_over.f k neg mode).bind fun bt => some (bt.1, bt.2)) (fun k => ?_) (Ev.bind (over_ev neg mode) (Ev.now _))
    simp only [parts_Round.j6]
    rw [hx, decide_eq_true g, if_pos rfl]
  · rw [if_neg g]
    refine Ev.no (fun k => ?_)
    simp only [parts_Round.j6]
    rw [hx, decide_eq_false g, if_neg (by decide), put_eq neg h0 h1 h2 (by omega) hc]; rfl
theorem j5_ev (neg : Bool) (mode : Int) {q e : Int} (fl : Int) (h0 : 0 ≤ q) (h1 : q < 9007199254740992) (h2 : -1074 ≤ e) (h3 : e < 100000) (hc : 4503599627370496 ≤ q ∨ e = -1074) :
    Ev (fun k => parts_Round.j5 k neg mode e q fl) (res neg mode (q + (e + 1074) * 4503599627370496) fl) := by
  refine Ev.step (fun k => ?_) (j6_ev neg mode fl h0 h1 h2 hc _ rfl)
  simp only [parts_Round.j5]
  by_cases g : q ≥ 4503599627370496
  · rw [if_pos g, w64 (by omega) (by omega)]
    congr 1
    rw [Bool.eq_iff_iff, decide_eq_true_iff, decide_eq_true_iff]; omega
  · rw [if_neg g]
    congr 1
    rw [decide_eq_false]; omega
theorem j4_ev (neg : Bool) (mode : Int) {q e : Int} (fl : Int) (h0 : 0 ≤ q) (h1 : q ≤ 9007199254740992) (h2 : -1074 ≤ e) (h3 : e < 90000) (hc : 4503599627370496 ≤ q ∨ e = -1074) :
    Ev (fun k => parts_Round.j4 k neg mode e q fl) (res neg mode (q + (e + 1074) * 4503599627370496) fl) := by
  by_cases g : q = 9007199254740992
  · have := j5_ev neg mode (q := 4503599627370496) (e := e + 1) fl (by omega) (by omega) (by omega) (by omega) (Or.inl (by omega))
    rw [show 4503599627370496 + (e + 1 + 1074) * 4503599627370496 = q + (e + 1074) * 4503599627370496 by omega] at this
    refine Ev.step (fun k => ?_) this
    simp only [parts_Round.j4]
    rw [if_pos g, w64 (by omega) (by omega)]
  · refine Ev.step (fun k => ?_) (j5_ev neg mode fl h0 (by omega) h2 (by omega) hc)
    simp only [parts_Round.j4]
    rw [if_neg g]
theorem j3_ev (neg : Bool) (mode : Int) {q e : Int} (half rest : Bool) (fl : Int) (h0 : 0 ≤ q) (h1 : q < 9007199254740992) (h2 : -1074 ≤ e) (h3 : e < 90000) (hc : 4503599627370496 ≤ q ∨ e = -1074) :
    Ev (fun k => parts_Round.j3 k neg mode e q half rest fl) (res neg mode (q + (e + 1074) * 4503599627370496 + (if upP neg (q + (e + 1074) * 4503599627370496) half rest mode then 1 else 0)) fl) := by
  have hu : upP neg (q + (e + 1074) * 4503599627370496) half rest mode = upP neg q half rest mode := by
    unfold upP
    rw [show (q + (e + 1074) * 4503599627370496) % 2 = q % 2 by omega]
  rw [hu]
  by_cases g : upP neg q half rest mode = true
  · have := j4_ev neg mode (q := q + 1) (e := e) fl (by omega) (by omega) h2 h3 (by omega)
    rw [show q + 1 + (e + 1074) * 4503599627370496 = q + (e + 1074) * 4503599627370496 + 1 by omega] at this
    rw [if_pos g]
    refine Ev.step (fun k => ?_) this
    simp only [parts_Round.j3]
    rw [up_eq neg h0 (by omega)]
    simp only [Option.bind_some]
    rw [if_pos g, wraps_u64 _ (by omega) (by omega)]
  · rw [if_neg g, Int.add_zero]
    refine Ev.step (fun k => ?_) (j4_ev neg mode fl h0 (by omega) h2 h3 hc)
    simp only [parts_Round.j3]
    rw [up_eq neg h0 (by omega)]
    simp only [Option.bind_some]
    rw [if_neg g]
theorem j1_ev (neg : Bool) (mode x : Int) (n : Nat) {q e : Int} (half rest : Bool) (h0 : 0 ≤ q) (h1 : q < 9007199254740992) (h2 : -1074 ≤ e) (h3 : e < 90000) (hc : 4503599627370496 ≤ q ∨ e = -1074)
    (hx : -100000 < x) (hx' : x < 100000) (hn : n < 100000) :
    Ev (fun k => parts_Round.j1 k neg x mode n e q half rest) (fin neg (q + (e + 1074) * 4503599627370496) half rest (decide (x + n < -1021)) mode) := by
  have hf : ∀ fl, Ev (fun k => parts_Round.j3 k neg mode e q half rest fl) (res neg mode (q + (e + 1074) * 4503599627370496 + (if upP neg (q + (e + 1074) * 4503599627370496) half rest mode then 1 else 0)) fl) := fun fl => j3_ev neg mode half rest fl h0 h1 h2 h3 hc
  have hw : wrap64 (wrap64 (x + n) - 1) = x + n - 1 := by rw [w64 (x := x + n) (by omega) (by omega), w64 (by omega) (by omega)]
  have hj : ∀ y : Bool, Ev (fun k => parts_Round.j2 k neg x mode n e q half rest 0 y) (res neg mode (q + (e + 1074) * 4503599627370496 + (if upP neg (q + (e + 1074) * 4503599627370496) half rest mode then 1 else 0)) (if y = true then (if decide (x + n < -1021) = true then 24 else 16) else 0)) := by
    intro y
    refine Ev.step (fun k => ?_) (hf _)
    simp only [parts_Round.j2]
    rw [hw]
    by_cases hy : y = true
    · rw [if_pos hy, if_pos hy]
      by_cases ht : x + n < -1021
      · rw [if_pos (show x + n - 1 < -1022 by omega), if_pos (decide_eq_true ht)]; rfl
      · rw [if_neg (show ¬ x + n - 1 < -1022 by omega), if_neg (by rw [decide_eq_true_iff]; exact ht)]
    · rw [if_neg hy, if_neg hy]
  refine Ev.step (fun k => ?_) (hj (half || rest))
  simp only [parts_Round.j1]
  cases half
  · rw [if_neg (by decide)]; rfl
  · rw [if_pos rfl]; rfl
theorem eP_bd (n : Nat) (x : Int) : eP n x = x + n - 53 ∨ eP n x = -1074 := by unfold eP mx; split <;> omega
theorem eP_ge (n : Nat) (x : Int) : x + n - 53 ≤ eP n x ∧ -1074 ≤ eP n x := by unfold eP mx; split <;> omega
theorem cutP_bd {W : Nat} (hW : W ≠ 0) (x : Int) :
    (cutP W (eP (bl W) x - x)).1 < 9007199254740992 ∧ (4503599627370496 ≤ (cutP W (eP (bl W) x - x)).1 ∨ eP (bl W) x = -1074) := by
  have h1 := lt_bl W
  have h2 := le_bl hW
  have h3 : 1 ≤ bl W := by rw [bl_pos hW]; omega
  have he := eP_bd (bl W) x
  have hg := eP_ge (bl W) x
  generalize eP (bl W) x = e at *
  generalize bl W = n at *
  unfold cutP
  by_cases g : e - x ≤ 0
  · rw [if_pos g]
    obtain ⟨d, hd⟩ : ∃ d : Nat, -(e - x) = (d : Int) := ⟨(-(e - x)).toNat, by omega⟩
    rw [hd, Int.toNat_natCast]
    have hp : 0 < 2 ^ d := Nat.pow_pos (by omega)
    constructor
    · show W * 2 ^ d < 9007199254740992
      refine Nat.lt_of_lt_of_le ((Nat.mul_lt_mul_right hp).2 h1) ?_
      rw [← Nat.pow_add]
      exact Nat.pow_le_pow_right (show 2 > 0 by omega) (show n + d ≤ 53 by omega)
    · rcases he with he | he
      · left
        show 4503599627370496 ≤ W * 2 ^ d
        refine Nat.le_trans ?_ (Nat.mul_le_mul_right _ h2)
        rw [← Nat.pow_add]
        exact Nat.pow_le_pow_right (show 2 > 0 by omega) (show 52 ≤ n - 1 + d by omega)
      · right; exact he
  · rw [if_neg g]
    obtain ⟨d, hd⟩ : ∃ d : Nat, (e - x) = (d : Int) := ⟨(e - x).toNat, by omega⟩
    rw [hd, Int.toNat_natCast]
    have hp : 0 < 2 ^ d := Nat.pow_pos (by omega)
    constructor
    · show W / 2 ^ d < 9007199254740992
      refine Nat.div_lt_of_lt_mul (Nat.lt_of_lt_of_le h1 ?_)
      rw [show (9007199254740992 : Nat) = 2 ^ 53 by decide, ← Nat.pow_add]
      exact Nat.pow_le_pow_right (by omega) (by omega)
    · rcases he with he | he
      · left
        show 4503599627370496 ≤ W / 2 ^ d
        refine (Nat.le_div_iff_mul_le hp).2 (Nat.le_trans ?_ h2)
        rw [show (4503599627370496 : Nat) = 2 ^ 52 by decide, ← Nat.pow_add]
        exact Nat.pow_le_pow_right (by omega) (by omega)
      · right; exact he
theorem cutP_ev {h l W : Nat} (e0 : h * 18446744073709551616 + l = W) (hh : h < 18446744073709551616) (hl : l < 18446744073709551616) (hW : W ≠ 0) {x : Int} (hx : -16384 ≤ x) (hx' : x ≤ 16384) :
    Ev (fun k => parts_wide_cut.f k h l (eP (bl W) x - x)) (((cutP W (eP (bl W) x - x)).1 : Int), (cutP W (eP (bl W) x - x)).2.1, (cutP W (eP (bl W) x - x)).2.2) := by
  have hb := (cutP_bd hW x).1
  have h3 : bl W ≤ 128 := bl_le (show W < 2 ^ 128 by omega)
  have h4 : 1 ≤ bl W := by rw [bl_pos hW]; omega
  have he := eP_bd (bl W) x
  have hg := eP_ge (bl W) x
  generalize eP (bl W) x = e at *
  generalize bl W = n at *
  unfold cutP at hb ⊢
  by_cases g : e - x ≤ 0
  · obtain ⟨d, hd⟩ : ∃ d : Nat, e - x = -(d : Int) := ⟨(-(e - x)).toNat, by omega⟩
    rw [if_pos g] at hb ⊢
    rw [hd, Int.neg_neg, Int.toNat_natCast] at hb
    rw [hd, Int.neg_neg, Int.toNat_natCast]
    refine Ev.congr (fun k => ?_) (Ev.now _)
    have hb' : W * 2 ^ d < 9007199254740992 := hb
    have hd' : d ≤ 64 := by omega
    subst e0
    exact cut_neg rfl k hl hd' (Nat.lt_trans hb' (by omega))
  · obtain ⟨d, hd⟩ : ∃ d : Nat, (e - x) = (d : Int) := ⟨(e - x).toNat, by omega⟩
    rw [if_neg g] at hb ⊢
    rw [hd, Int.toNat_natCast] at hb
    rw [hd, Int.toNat_natCast]
    have hb' : W / 2 ^ d < 9007199254740992 := hb
    have := cut_pos e0 hh hl (d := d) (by omega) (by omega)
    rw [Nat.mod_eq_of_lt (Nat.lt_trans hb' (by omega))] at this
    exact this
theorem round_ev (neg : Bool) {h l W : Nat} (e0 : h * 18446744073709551616 + l = W) (hh : h < 18446744073709551616) (hl : l < 18446744073709551616) (x0 : Int) (more : Bool) (mode : Int) :
    Ev (fun k => parts_Round.f k neg h l x0 more mode) (roundP neg W x0 more mode) := by
  have hlen := wlen hh hl
  rw [e0] at hlen
  unfold roundP
  by_cases hW : W = 0
  · subst hW
    rw [if_pos rfl]
    refine Ev.congr (fun k => ?_) (Ev.now _)
    unfold parts_Round.f
    rw [hlen, bl_zero]
    simp only [Option.bind_some]
    rw [if_pos (by rfl), zero_sgn]; rfl
  rw [if_neg hW]
  obtain ⟨hx, hx'⟩ := clamp_bd x0
  have h3 : bl W ≤ 128 := bl_le (show W < 2 ^ 128 by omega)
  have h4 : 1 ≤ bl W := by rw [bl_pos hW]; omega
  have hj : ∀ y : Bool, Ev (fun k => parts_Round.j0 k neg (clampP x0) y mode (bl W : Int) h l) (fin neg (((cutP W (eP (bl W) (clampP x0) - clampP x0)).1 : Int) + (eP (bl W) (clampP x0) + 1074) * 4503599627370496) (cutP W (eP (bl W) (clampP x0) - clampP x0)).2.1 ((cutP W (eP (bl W) (clampP x0) - clampP x0)).2.2 || y) (decide (clampP x0 + bl W < -1021)) mode) := by
    intro y
    have hc := cutP_ev e0 hh hl hW hx hx'
    have hb := cutP_bd hW (clampP x0)
    have he := eP_bd (bl W) (clampP x0)
    have hg := eP_ge (bl W) (clampP x0)
    have hw : mx (wrap64 (wrap64 (wrap64 (clampP x0 + (bl W : Int)) - 1) - 52)) (-1074) = eP (bl W) (clampP x0) := by
      rw [w64 (x := clampP x0 + (bl W : Int)) (by omega) (by omega), w64 (x := clampP x0 + (bl W : Int) - 1) (by omega) (by omega), w64 (by omega) (by omega)]
      unfold eP; congr 1; omega
    generalize cutP W (eP (bl W) (clampP x0) - clampP x0) = c at *
    generalize eP (bl W) (clampP x0) = e at *
    generalize clampP x0 = x at *
    generalize bl W = n at *
    refine Ev.step (f := fun k => (parts_wide_cut.f k h l (e - x)).bind fun bt126 => (if bt126.2.2 = true then (parts_Round.j1 k neg x mode n e bt126.1 bt126.2.1 true) else (parts_Round.j1 k neg x mode n e bt126.1 bt126.2.1 y))) (fun k => ?_) (Ev.bind hc ?_)
    · simp only [parts_Round.j0]
      rw [hw, w64 (x := e - x) (by omega) (by omega)]
    · have hf : ∀ r : Bool, Ev (fun k => parts_Round.j1 k neg x mode n e (c.1 : Int) c.2.1 r) (fin neg ((c.1 : Int) + (e + 1074) * 4503599627370496) c.2.1 r (decide (x + n < -1021)) mode) := fun r => by
        have h5 : 4503599627370496 ≤ (c.1 : Int) ∨ e = -1074 := by omega
        have h6 : (c.1 : Int) < 9007199254740992 := by omega
        exact j1_ev neg mode x n c.2.1 r (Int.natCast_nonneg _) h6 (by omega) (by omega) h5 (by omega) (by omega) (by omega)
      by_cases g : c.2.2 = true
      · simp only [if_pos g]
        rw [show (c.2.2 || y) = true by rw [g]; rfl]
        exact hf true
      · simp only [if_neg g]
        rw [show (c.2.2 || y) = y by rw [Bool.not_eq_true] at g; rw [g]; rfl]
        exact hf y
  refine Ev.congr (f := fun k => parts_Round.j0 k neg (clampP x0) (more && (decide (55 ≤ bl W) || decide (clampP x0 ≤ -1080))) mode (bl W : Int) h l) (fun k => ?_) (hj _)
  unfold parts_Round.f
  rw [hlen]
  simp only [Option.bind_some]
  rw [if_neg (by omega)]
  change (if more = true then (if (bl W : Int) ≥ 55 then parts_Round.j0 k neg (clampP x0) true mode (bl W : Int) h l else parts_Round.j0 k neg (clampP x0) (decide (clampP x0 ≤ -1080)) mode (bl W : Int) h l) else parts_Round.j0 k neg (clampP x0) false mode (bl W : Int) h l) = _
  generalize clampP x0 = x at *
  generalize bl W = n at *
  cases more
  · rw [if_neg (by decide)]; rfl
  · rw [if_pos rfl]
    by_cases g : (55 : Nat) ≤ n
    · rw [if_pos (show (n : Int) ≥ 55 by omega), decide_eq_true g]; rfl
    · rw [if_neg (show ¬ (n : Int) ≥ 55 by omega), decide_eq_false g]; rfl
def shA (N : Nat) (s : Int) : Nat := N * 2 ^ s.toNat
def shB (D : Nat) (s : Int) : Nat := D * 2 ^ (-s).toNat
theorem shB_pos {D : Nat} (h : 0 < D) (s : Int) : 0 < shB D s := Nat.mul_pos h (Nat.pow_pos (by omega))
def halfR (N D : Nat) (s : Int) : Bool := decide (shB D s ≤ 2 * (shA N s % shB D s))
def restR (N D : Nat) (s : Int) : Bool := decide (shA N s % shB D s ≠ 0 ∧ 2 * (shA N s % shB D s) ≠ shB D s)
def tinyR (N D : Nat) (x : Int) : Bool := decide (shA N (x + 1022) < shB D (x + 1022))
def finR (neg : Bool) (N D : Nat) (x e mode : Int) : Int × Int :=
  fin neg (((shA N (x - e) / shB D (x - e) : Nat) : Int) + (e + 1074) * 4503599627370496) (halfR N D (x - e)) (restR N D (x - e)) (tinyR N D x) mode
def Q (N D : Nat) (s : Int) : Nat := shA N s / shB D s
theorem Q_half (N D : Nat) (s : Int) : Q N D (s - 1) = Q N D s / 2 := by
  unfold Q shA shB
  by_cases g : 1 ≤ s
  · obtain ⟨m, hm⟩ : ∃ m : Nat, s = (m : Int) + 1 := ⟨(s - 1).toNat, by omega⟩
    subst hm
    rw [show ((m : Int) + 1 - 1).toNat = m by omega, show ((m : Int) + 1).toNat = m + 1 by omega, show (-((m : Int) + 1 - 1)).toNat = 0 by omega, show (-((m : Int) + 1)).toNat = 0 by omega, Nat.pow_succ, Nat.pow_zero, Nat.mul_one]
    rw [Nat.div_div_eq_div_mul, ← Nat.mul_assoc, Nat.mul_div_mul_right _ _ (by omega)]
  · obtain ⟨m, hm⟩ : ∃ m : Nat, s = -(m : Int) := ⟨(-s).toNat, by omega⟩
    subst hm
    rw [show (-(m : Int) - 1).toNat = 0 by omega, show (-(m : Int)).toNat = 0 by omega, show (-(-(m : Int) - 1)).toNat = m + 1 by omega, show (-(-(m : Int))).toNat = m by omega, Nat.pow_succ, Nat.div_div_eq_div_mul, Nat.mul_assoc]
theorem Q_down (N D : Nat) (s : Int) (m : Nat) : Q N D (s - m) * 2 ^ m ≤ Q N D s := by
  induction m with
  | zero => rw [Nat.pow_zero, Nat.mul_one, show s - ((0 : Nat) : Int) = s by omega]; exact Nat.le_refl _
  | succ m ih =>
    rw [show s - ((m + 1 : Nat) : Int) = s - (m : Int) - 1 by omega, Q_half, Nat.pow_succ]
    refine Nat.le_trans ?_ ih
    rw [Nat.mul_comm (2 ^ m) 2, ← Nat.mul_assoc]
    exact Nat.mul_le_mul_right _ (by omega)
def canon (N D : Nat) (x e : Int) : Prop := -1074 ≤ e ∧ Q N D (x - e) < 9007199254740992 ∧ (4503599627370496 ≤ Q N D (x - e) ∨ e = -1074)
theorem canon_le {N D : Nat} {x e f : Int} (he : canon N D x e) (hf : canon N D x f) : e ≤ f := by
  by_cases g : e ≤ f
  · exact g
  · have h1 : 4503599627370496 ≤ Q N D (x - e) := by rcases he.2.2 with h | h; exact h; have := hf.1; omega
    have h2 := Q_down N D (x - f) (e - f - 1).toNat
    have h3 := Q_half N D (x - f - ((e - f - 1).toNat : Int))
    rw [show x - f - ((e - f - 1).toNat : Int) - 1 = x - e by omega] at h3
    have h4 := Nat.le_mul_of_pos_right (Q N D (x - f - ((e - f - 1).toNat : Int))) (Nat.pow_pos (n := (e - f - 1).toNat) (show 0 < 2 by omega))
    have := hf.2.1
    omega
theorem canon_eq {N D : Nat} {x e f : Int} (he : canon N D x e) (hf : canon N D x f) : e = f := Int.le_antisymm (canon_le he hf) (canon_le hf he)
theorem sh_lt {N D : Nat} (hD : D ≠ 0) {s : Int} {c d : Nat} (h : (bl N : Int) + s + c ≤ (bl D : Int) - 1 + d) : shA N s * 2 ^ c < shB D s * 2 ^ d := by
  unfold shA shB
  have h1 := lt_bl N
  have h2 := le_bl hD
  have h3 : 1 ≤ bl D := by rw [bl_pos hD]; omega
  rw [Nat.mul_assoc, Nat.mul_assoc, ← Nat.pow_add, ← Nat.pow_add]
  refine Nat.lt_of_lt_of_le ((Nat.mul_lt_mul_right (Nat.pow_pos (by omega))).2 h1) (Nat.le_trans ?_ (Nat.mul_le_mul_right _ h2))
  rw [← Nat.pow_add, ← Nat.pow_add]
  exact Nat.pow_le_pow_right (by omega) (by omega)
theorem sh_ge {N D : Nat} (hN : N ≠ 0) {s : Int} {c : Nat} (h : (bl D : Int) + c ≤ (bl N : Int) - 1 + s) : shB D s * 2 ^ c ≤ shA N s := by
  unfold shA shB
  have h1 := lt_bl D
  have h2 := le_bl hN
  have h3 : 1 ≤ bl N := by rw [bl_pos hN]; omega
  rw [Nat.mul_assoc, ← Nat.pow_add]
  refine Nat.le_trans (Nat.mul_le_mul_right _ (Nat.le_of_lt h1)) (Nat.le_trans ?_ (Nat.mul_le_mul_right _ h2))
  rw [← Nat.pow_add, ← Nat.pow_add]
  exact Nat.pow_le_pow_right (by omega) (by omega)
def eR (N D : Nat) (x : Int) : Int := mx ((bl N : Int) - (bl D : Int) + x - 54) (-1074)
theorem eR_bd (N D : Nat) (x : Int) : (eR N D x = (bl N : Int) - (bl D : Int) + x - 54 ∨ eR N D x = -1074) ∧ (bl N : Int) - (bl D : Int) + x - 54 ≤ eR N D x ∧ -1074 ≤ eR N D x := by unfold eR mx; split <;> omega
theorem Q_start {N D : Nat} (hD : D ≠ 0) (x : Int) : shA N (x - eR N D x) < shB D (x - eR N D x) * 2 ^ 55 := by
  have h := (eR_bd N D x).2.1
  have := sh_lt (N := N) hD (s := x - eR N D x) (c := 0) (d := 55) (by omega)
  rwa [Nat.pow_zero, Nat.mul_one] at this
theorem canon_ex {N D : Nat} (hN : N ≠ 0) (hD : D ≠ 0) (x : Int) : ∃ e, canon N D x e ∧ eR N D x ≤ e ∧ e ≤ eR N D x + 3 := by
  have hb := eR_bd N D x
  have h0 : Q N D (x - eR N D x) < 2 ^ 55 := Nat.div_lt_of_lt_mul (Q_start hD x)
  have h1 : 4503599627370496 ≤ Q N D (x - eR N D x) ∨ eR N D x = -1074 := by
    rcases hb.1 with h | h
    · left
      refine (Nat.le_div_iff_mul_le (shB_pos (by omega) _)).2 ?_
      rw [Nat.mul_comm]
      have := sh_ge (D := D) hN (s := x - eR N D x) (c := 52) (by omega)
      exact this
    · right; exact h
  have q1 := Q_half N D (x - eR N D x)
  have q2 := Q_half N D (x - eR N D x - 1)
  have q3 := Q_half N D (x - eR N D x - 1 - 1)
  rw [show x - eR N D x - 1 = x - (eR N D x + 1) by omega] at q1 q2 q3
  rw [show x - (eR N D x + 1) - 1 = x - (eR N D x + 2) by omega] at q2 q3
  rw [show x - (eR N D x + 2) - 1 = x - (eR N D x + 3) by omega] at q3
  by_cases g0 : Q N D (x - eR N D x) < 9007199254740992
  · exact ⟨_, ⟨hb.2.2, g0, h1⟩, by omega, by omega⟩
  by_cases g1 : Q N D (x - (eR N D x + 1)) < 9007199254740992
  · exact ⟨_, ⟨by omega, g1, Or.inl (by omega)⟩, by omega, by omega⟩
  by_cases g2 : Q N D (x - (eR N D x + 2)) < 9007199254740992
  · exact ⟨_, ⟨by omega, g2, Or.inl (by omega)⟩, by omega, by omega⟩
  · exact ⟨eR N D x + 3, ⟨by omega, by omega, Or.inl (by omega)⟩, by omega, by omega⟩
theorem bl_one : bl 1 = 1 := by rw [bl_pos (by omega), show 1 / 2 = 0 from rfl, bl_zero]
theorem cutP_R (W : Nat) (d : Int) : cutP W d = (Q W 1 (-d), halfR W 1 (-d), restR W 1 (-d)) := by
  unfold cutP Q halfR restR shA shB
  by_cases g : d ≤ 0
  · rw [if_pos g, show (-(-d)).toNat = 0 by omega, Nat.pow_zero, Nat.mul_one, Nat.div_one, Nat.mod_one]
    rw [decide_eq_false (by omega), decide_eq_false (by omega)]
  · obtain ⟨m, hm⟩ : ∃ m : Nat, d = (m : Int) + 1 := ⟨(d - 1).toNat, by omega⟩
    subst hm
    rw [if_neg g, show ((m : Int) + 1).toNat = m + 1 by omega, show (-((m : Int) + 1)).toNat = 0 by omega, show (-(-((m : Int) + 1))).toNat = m + 1 by omega, Nat.pow_zero, Nat.mul_one, Nat.one_mul, Nat.add_sub_cancel]
    have h1 : W % 2 ^ (m + 1) = W % 2 ^ m + 2 ^ m * (W / 2 ^ m % 2) := by rw [Nat.pow_succ, Nat.mod_mul]
    have h2 : W % 2 ^ m < 2 ^ m := Nat.mod_lt _ (Nat.pow_pos (by omega))
    have h3 : W / 2 ^ m % 2 = 0 ∨ W / 2 ^ m % 2 = 1 := by omega
    have h4 : (2 : Nat) ^ (m + 1) = 2 * 2 ^ m := by rw [Nat.pow_succ, Nat.mul_comm]
    rw [h1]
    generalize W / 2 ^ (m + 1) = q
    rw [h4]
    generalize W / 2 ^ m % 2 = b at *
    generalize W % 2 ^ m = w at *
    generalize 2 ^ m = M at *
    clear h1 h4 g
    rcases h3 with h | h
    · subst h
      rw [Nat.mul_zero, Nat.add_zero]
      congr 2
      · rw [Bool.eq_iff_iff, decide_eq_true_iff, decide_eq_true_iff]; omega
      · rw [Bool.eq_iff_iff, decide_eq_true_iff, decide_eq_true_iff]; omega
    · subst h
      rw [Nat.mul_one]
      congr 2
      · rw [Bool.eq_iff_iff, decide_eq_true_iff, decide_eq_true_iff]; omega
      · rw [Bool.eq_iff_iff, decide_eq_true_iff, decide_eq_true_iff]; omega
theorem canon_parts {W : Nat} (hW : W ≠ 0) (x : Int) : canon W 1 x (eP (bl W) x) := by
  have h := cutP_bd hW x
  rw [cutP_R, show -(eP (bl W) x - x) = x - eP (bl W) x by omega] at h
  exact ⟨(eP_ge _ _).2, h.1, h.2⟩
theorem tiny_parts {W : Nat} (hW : W ≠ 0) (x : Int) : tinyR W 1 x = decide (x + bl W < -1021) := by
  unfold tinyR
  by_cases g : x + bl W < -1021
  · have := sh_lt (N := W) (D := 1) (by omega) (s := x + 1022) (c := 0) (d := 0) (by rw [bl_one]; omega)
    rw [Nat.pow_zero, Nat.mul_one, Nat.mul_one] at this
    rw [decide_eq_true this, decide_eq_true g]
  · rw [decide_eq_false g, decide_eq_false]
    have h2 := le_bl hW
    have h3 : 1 ≤ bl W := by rw [bl_pos hW]; omega
    unfold shA shB
    rw [Nat.one_mul]
    refine Nat.not_lt.2 (Nat.le_trans ?_ (Nat.mul_le_mul_right _ h2))
    rw [← Nat.pow_add]
    exact Nat.pow_le_pow_right (by omega) (by omega)
theorem finR_parts (neg : Bool) {W : Nat} (hW : W ≠ 0) (x mode : Int) : finR neg W 1 x (eP (bl W) x) mode =
    fin neg (((cutP W (eP (bl W) x - x)).1 : Int) + (eP (bl W) x + 1074) * 4503599627370496) (cutP W (eP (bl W) x - x)).2.1 (cutP W (eP (bl W) x - x)).2.2 (decide (x + bl W < -1021)) mode := by
  rw [cutP_R, show -(eP (bl W) x - x) = x - eP (bl W) x by omega, ← tiny_parts hW]; rfl
theorem roundP_eq (neg : Bool) {W : Nat} (hW : W ≠ 0) (x0 : Int) (more : Bool) (mode : Int) : roundP neg W x0 more mode =
    fin neg (((cutP W (eP (bl W) (clampP x0) - clampP x0)).1 : Int) + (eP (bl W) (clampP x0) + 1074) * 4503599627370496) (cutP W (eP (bl W) (clampP x0) - clampP x0)).2.1
      ((cutP W (eP (bl W) (clampP x0) - clampP x0)).2.2 || (more && (decide (55 ≤ bl W) || decide (clampP x0 ≤ -1080)))) (decide (clampP x0 + bl W < -1021)) mode := by
  unfold roundP
  rw [if_neg hW]
theorem clamp_in {x : Int} (h0 : -16384 ≤ x) (h1 : x ≤ 16384) : clampP x = x := by unfold clampP mn mx; split <;> split <;> omega
/-- What a binary64 number's parts come to, rounded: itself. -/
theorem round_exact (neg : Bool) {q : Nat} {e : Int} (h1 : q < 9007199254740992) (h2 : -1074 ≤ e) (h3 : e ≤ 971) (hc : 4503599627370496 ≤ q ∨ e = -1074) :
    roundP neg q e false 0 = (sgn neg + ((q : Int) + (e + 1074) * 4503599627370496), 0) ∨ (q = 0 ∧ roundP neg q e false 0 = (sgn neg, 0)) := by
  by_cases h0 : q = 0
  · right; refine ⟨h0, ?_⟩; subst h0; unfold roundP; rw [if_pos rfl]
  left
  have hb : bl q ≤ 53 := bl_le (show q < 2 ^ 53 from h1)
  have he : eP (bl q) e = e := by
    rcases hc with h | h
    · have := bl_gt (n := 52) (a := q) h
      have := eP_bd (bl q) e
      have := eP_ge (bl q) e
      omega
    · have := eP_bd (bl q) e
      have := eP_ge (bl q) e
      omega
  rw [roundP_eq neg h0, clamp_in (by omega) (by omega), he, show e - e = 0 by omega]
  have hcut : cutP q 0 = (q, false, false) := by unfold cutP; rw [if_pos (by omega)]; simp
  rw [hcut, Bool.false_and]
  show fin neg ((q : Int) + (e + 1074) * 4503599627370496) false false _ 0 = _
  have hu : upP neg ((q : Int) + (e + 1074) * 4503599627370496) false false 0 = false := by
    unfold upP; rw [if_neg (by decide), if_neg (by decide), if_neg (by decide), if_neg (by decide), Bool.false_and]
  unfold fin res
  rw [hu, if_neg (show ¬ false = true by decide), Int.add_zero, if_neg (by omega), if_neg (by decide)]
theorem parts_of {a : Int} (h0 : 0 ≤ a) (h1 : a < 18446744073709551616) (hE : E a ≠ 2047) :
    a = sgn (neg a) + (sg a + (ex a + 1074) * 4503599627370496) ∧ 0 ≤ sg a ∧ sg a < 9007199254740992 ∧ -1074 ≤ ex a ∧ ex a ≤ 971 ∧ (4503599627370496 ≤ sg a ∨ ex a = -1074) := by
  have hs : sgn (neg a) = a / 9223372036854775808 * 9223372036854775808 := by
    unfold neg sgn
    by_cases g : a ≥ 9223372036854775808
    · rw [decide_eq_true g, if_pos rfl]; omega
    · rw [decide_eq_false g, if_neg (by decide)]; omega
  rw [hs]
  unfold sg ex
  unfold E F at *
  split <;> omega
theorem of_parts (neg0 : Bool) {q e : Int} (h0 : 0 ≤ q) (h1 : q < 9007199254740992) (h2 : -1074 ≤ e) (hc : 4503599627370496 ≤ q ∨ e = -1074) (hi : q + (e + 1074) * 4503599627370496 < 9218868437227405312) :
    sg (sgn neg0 + (q + (e + 1074) * 4503599627370496)) = q ∧ ex (sgn neg0 + (q + (e + 1074) * 4503599627370496)) = e := by
  have hs : sgn neg0 = 0 ∨ sgn neg0 = 9223372036854775808 := by cases neg0 <;> simp [sgn]
  generalize sgn neg0 = s at *
  unfold sg ex E F
  constructor <;> split <;> omega
theorem floor_ge {N D m : Nat} {x e f : Int} (hc : canon N D x e) (hm : m < 9007199254740992) (hcm : 4503599627370496 ≤ m ∨ f = -1074) (hV : m * shB D (x - f) ≤ shA N (x - f)) (hD : 0 < D) (_hf : -1074 ≤ f) :
    (m : Int) + (f + 1074) * 4503599627370496 ≤ ((Q N D (x - e) : Nat) : Int) + (e + 1074) * 4503599627370496 := by
  obtain ⟨h1, h2, h3⟩ := hc
  have hq : m ≤ Q N D (x - f) := (Nat.le_div_iff_mul_le (shB_pos hD _)).2 hV
  by_cases g : f ≤ e
  · by_cases g2 : e = f
    · subst g2; omega
    · omega
  · exfalso
    have h4 := Q_down N D (x - e) (f - e - 1 + 1).toNat
    rw [show x - e - (((f - e - 1 + 1).toNat : Nat) : Int) = x - f by omega] at h4
    obtain ⟨k, hk⟩ : ∃ k, (f - e - 1 + 1).toNat = k + 1 := ⟨(f - e - 1).toNat, by omega⟩
    rw [hk, Nat.pow_succ] at h4
    have h5 : 1 ≤ 2 ^ k := Nat.pow_pos (by omega)
    have h7 := Nat.mul_le_mul (show 4503599627370496 ≤ Q N D (x - f) by omega) (Nat.mul_le_mul_right 2 h5)
    omega
-- Sums of two numbers that are not below 0, rounded to the nearest: neither is above the sum.
theorem fin_near {C a : Int} (h0 : 0 ≤ C) (half rest tiny : Bool) (ha : a ≤ C) (hi : a ≤ 9218868437227405312) :
    a ≤ (fin false C half rest tiny 0).1 ∧ 0 ≤ (fin false C half rest tiny 0).1 ∧ (fin false C half rest tiny 0).1 ≤ 9218868437227405312 := by
  have hu : ∀ b : Bool, 0 ≤ (if b = true then (1 : Int) else 0) ∧ (if b = true then (1 : Int) else 0) ≤ 1 := by intro b; cases b <;> decide
  have h1 := hu (upP false C half rest 0)
  have hf : farP false 0 = true := by decide
  have hs : sgn false = 0 := rfl
  unfold fin res
  rw [hf, hs, if_pos rfl]
  generalize (if upP false C half rest 0 = true then (1 : Int) else 0) = u at *
  split
  · exact ⟨by show a ≤ 0 + 9218868437227405312; omega, by show (0 : Int) ≤ 0 + 9218868437227405312; omega, by show (0 : Int) + 9218868437227405312 ≤ 9218868437227405312; omega⟩
  · exact ⟨by show a ≤ 0 + (C + u); omega, by show (0 : Int) ≤ 0 + (C + u); omega, by show (0 : Int) + (C + u) ≤ 9218868437227405312; omega⟩
theorem round_up {m W D : Nat} {x : Int} (more : Bool) (hm : m < 9007199254740992) (hx : -1074 ≤ x) (hx' : x ≤ 971) (hc : 4503599627370496 ≤ m ∨ x = -1074) (h0 : m ≠ 0) (hD : D ≤ 62) (hW : m * 2 ^ D ≤ W) (hi : (m : Int) + (x + 1074) * 4503599627370496 ≤ 9218868437227405312) :
    (m : Int) + (x + 1074) * 4503599627370496 ≤ (roundP false W (x - D) more 0).1 ∧ 0 ≤ (roundP false W (x - D) more 0).1 ∧ (roundP false W (x - D) more 0).1 ≤ 9218868437227405312 := by
  have hp : 0 < 2 ^ D := Nat.pow_pos (by omega)
  have hW0 : W ≠ 0 := by have := Nat.le_mul_of_pos_right m hp; omega
  rw [roundP_eq false hW0, clamp_in (by omega) (by omega)]
  have hca := canon_parts hW0 (x - D)
  have hf := floor_ge hca hm hc (by unfold shA shB; rw [show (x - (D : Int) - x).toNat = 0 by omega, show (-(x - (D : Int) - x)).toNat = D by omega, Nat.pow_zero, Nat.mul_one, Nat.one_mul]; exact hW) (by omega) hx
  rw [cutP_R, show -(eP (bl W) (x - D) - (x - D)) = x - D - eP (bl W) (x - D) by omega]
  refine fin_near ?_ _ _ _ hf hi
  have := hca.1
  show 0 ≤ ((Q W 1 (x - D - eP (bl W) (x - D)) : Nat) : Int) + _
  omega
theorem join_eq {H L k W : Nat} (hL : L < 18446744073709551616) (hk : k < 18446744073709551616) (hW : H * 18446744073709551616 + L + k = W) (hB : W < 340282366920938463463374607431768211456) (more : Bool) :
    ∃ h l : Nat, fadd_join.f H L k false more = some ((h : Int), (l : Int)) ∧ h < 18446744073709551616 ∧ l < 18446744073709551616 ∧ h * 18446744073709551616 + l = W := by
  have q1 := Nat.div_add_mod (L + k) 18446744073709551616
  refine ⟨H + (L + k) / 18446744073709551616, (L + k) % 18446744073709551616, ?_, by omega, Nat.mod_lt _ (by decide), ?_⟩
  · unfold fadd_join.f
    rw [if_pos (by omega), if_neg (by decide), IntKind.wrap_u64]
    rw [show ((H : Int) + (↑L + ↑k) / 18446744073709551616) % 18446744073709551616 = ((H + (L + k) / 18446744073709551616 : Nat) : Int) by omega, show ((L : Int) + ↑k) % 18446744073709551616 = (((L + k) % 18446744073709551616 : Nat) : Int) by omega]
  · rw [Nat.add_mul, Nat.mul_comm ((L + k) / 18446744073709551616), Nat.add_assoc, q1, ← hW, Nat.add_assoc]
theorem lift_eq {m n : Nat} (_hm : m < 9007199254740992) (hn : n ≤ 62) : fadd_lift.f m n = some (((m * 2 ^ n / 18446744073709551616 : Nat) : Int), ((m * 2 ^ n % 18446744073709551616 : Nat) : Int)) := by
  unfold fadd_lift.f
  by_cases g : n = 0
  · subst g
    rw [if_pos (by rfl), Nat.pow_zero, Nat.mul_one, show m / 18446744073709551616 = 0 by omega, show m % 18446744073709551616 = m by omega]; rfl
  · rw [if_neg (by omega), w64 (by omega) (by omega), if_pos (by omega), if_pos (by omega), show (64 : Int) - (n : Int) = ((64 - n : Nat) : Int) by omega, shr_nat (by omega), shl_nat (by omega)]
    rw [show m * 2 ^ n / 18446744073709551616 = m / 2 ^ (64 - n) by
      rw [← p64 (n := n) (by omega), Nat.mul_comm (2 ^ n) (2 ^ (64 - n)), Nat.mul_div_mul_right _ _ (Nat.pow_pos (by omega))]]
theorem sum_ex {a b : Int} (b0 : 0 ≤ b) (hb : b ≤ a) (ha : a < 9218868437227405312) (h0 : a ≠ 0) :
    ∃ v : Int × Int, Ev (fun k => fadd_sum.f k a b 0) v ∧ a ≤ v.1 ∧ 0 ≤ v.1 ∧ v.1 ≤ 9218868437227405312 := by
  have hEa : E a ≠ 2047 := by unfold E; omega
  have hEb : E b ≠ 2047 := by unfold E; omega
  obtain ⟨pa, a1, a2, a3, a4, a5⟩ := parts_of (a := a) (by omega) (by omega) hEa
  obtain ⟨pb, b1, b2, b3, b4, b5⟩ := parts_of (a := b) (by omega) (by omega) hEb
  have hna : neg a = false := by unfold neg; exact decide_eq_false (by omega)
  have hnb : neg b = false := by unfold neg; exact decide_eq_false (by omega)
  have sa := split_eq (a := a) (by omega) (by omega)
  have sb := split_eq (a := b) (by omega) (by omega)
  rw [if_neg hEa, hna] at sa
  rw [if_neg hEb, hnb] at sb
  rw [hna] at pa
  rw [hnb] at pb
  have hs : sgn false = 0 := rfl
  rw [hs] at pa pb
  obtain ⟨m, hm⟩ := Int.eq_ofNat_of_zero_le a1
  obtain ⟨n, hn⟩ := Int.eq_ofNat_of_zero_le b1
  rw [hm] at sa pa a2 a5
  rw [hn] at sb pb b2 b5
  generalize ex a = x at *
  generalize ex b = y at *
  obtain ⟨d, hd⟩ : ∃ d : Nat, x = y + d := Int.le.dest_sub (by omega : y ≤ x) |> fun h => ⟨(x - y).toNat, by omega⟩
  clear hm hn a1 b1
  have hsub : wrap64 (x - y) = (d : Int) := by rw [w64 (by omega) (by omega)]; omega
  by_cases g : d ≤ 60
  · have hl := lift_eq (m := m) (n := d) (by omega) (by omega)
    have hp : m * 2 ^ d ≤ m * 2 ^ 60 := Nat.mul_le_mul_left _ (Nat.pow_le_pow_right (by omega) g)
    have hp2 : m * 2 ^ 60 ≤ 10384593717069655257060992658440192 := Nat.mul_le_mul_right (2 ^ 60) (show m ≤ 9007199254740992 by omega)
    have r := round_up (m := m) (W := m * 2 ^ d + n) (D := d) (x := x) false (by omega) (by omega) (by omega) (by omega) (by omega) (by omega) (by omega) (by omega)
    rw [show x - (d : Int) = y by omega] at r
    generalize m * 2 ^ d = z at *
    obtain ⟨h, l, hj, q1, q2, q3⟩ := join_eq (H := z / 18446744073709551616) (L := z % 18446744073709551616) (k := n) (W := z + n) (by omega) (by omega) (by omega) (by omega) false
    refine ⟨roundP false (z + n) y false 0, ?_, by omega, r.2.1, r.2.2⟩
    refine Ev.congr (f := fun k => (parts_Round.f k false h l y false 0).bind fun bt => some (bt.1, bt.2)) (fun k => ?_) (Ev.bind (round_ev false q3 q1 q2 y false 0) (Ev.now _))
    unfold fadd_sum.f
    rw [sa, Option.bind_some, sb, Option.bind_some, hsub, if_pos (by omega), hl, Option.bind_some]
    show (fadd_join.f (z / 18446744073709551616 : Nat) (z % 18446744073709551616 : Nat) n false false).bind _ = _
    rw [hj, Option.bind_some]
  · have hl := lift_eq (m := m) (n := 62) (by omega) (by omega)
    have hp2 : m * 2 ^ 62 ≤ 41538374868278621028243970633760768 := Nat.mul_le_mul_right (2 ^ 62) (show m ≤ 9007199254740992 by omega)
    obtain ⟨z, hz⟩ : ∃ z : Nat, m * 2 ^ 62 = z := ⟨_, rfl⟩
    rw [hz] at hl hp2
    have fin_ : ∀ (s : Nat) (more : Bool), s < 18446744073709551616 → (∀ k, fadd_sum.f k a b 0 = (fadd_join.f ((z / 18446744073709551616 : Nat) : Int) ((z % 18446744073709551616 : Nat) : Int) s false more).bind fun bt => (parts_Round.f k false bt.1 bt.2 (wrap64 (x - 62)) more 0).bind fun bt' => some (bt'.1, bt'.2)) →
        ∃ v : Int × Int, Ev (fun k => fadd_sum.f k a b 0) v ∧ a ≤ v.1 ∧ 0 ≤ v.1 ∧ v.1 ≤ 9218868437227405312 := by
      intro s more hs he
      have r := round_up (m := m) (W := z + s) (D := 62) (x := x) more (by omega) (by omega) (by omega) (by omega) (by omega) (by omega) (by rw [hz]; omega) (by omega)
      rw [show x - ((62 : Nat) : Int) = x - 62 from rfl] at r
      obtain ⟨h, l, hj, q1, q2, q3⟩ := join_eq (H := z / 18446744073709551616) (L := z % 18446744073709551616) (k := s) (W := z + s) (Nat.mod_lt _ (by decide)) (by omega) (by rw [Nat.mul_comm, Nat.div_add_mod]) (by clear r; omega) more
      refine ⟨roundP false (z + s) (x - 62) more 0, ?_, by omega, r.2.1, r.2.2⟩
      refine Ev.congr (f := fun k => (parts_Round.f k false h l (x - 62) more 0).bind fun bt => some (bt.1, bt.2)) (fun k => ?_) (Ev.bind (round_ev false q3 q1 q2 (x - 62) more 0) (Ev.now _))
      rw [he, hj, Option.bind_some, w64 (by omega) (by omega)]
    have hw : wrap64 ((d : Int) - 62) = (d : Int) - 62 := w64 (by omega) (by omega)
    by_cases g2 : d ≤ 62
    · have hmn : mn ((d : Int) - 62) 116 = -((62 - d : Nat) : Int) := by unfold mn; first | omega | (split <;> omega)
      have hle : n * 2 ^ (62 - d) ≤ n * 2 ^ 1 := Nat.mul_le_mul_left _ (Nat.pow_le_pow_right (by omega) (by omega))
      have hsh := shl_nat (h := n) (n := 62 - d) (by omega)
      rw [Nat.mod_eq_of_lt (by omega)] at hsh
      refine fin_ (n * 2 ^ (62 - d)) false (by omega) (fun k => ?_)
      unfold fadd_sum.f
      rw [sa, Option.bind_some, sb, Option.bind_some, hsub, if_neg (by omega), show fadd_lift.f (m : Int) 62 = _ from hl, Option.bind_some, hw, hmn, if_pos (by omega), w64 (by omega) (by omega), Int.neg_neg, if_pos (by omega), hsh]
      rfl
    · by_cases g3 : d < 126
      · have hmn : mn ((d : Int) - 62) 116 = ((d - 62 : Nat) : Int) := by unfold mn; first | omega | (split <;> omega)
        have hsh := shr_nat (h := n) (n := d - 62) (by omega)
        have hle : n / 2 ^ (d - 62) ≤ n := Nat.div_le_self _ _
        refine fin_ (n / 2 ^ (d - 62)) (shl .u64 (n : Int) (wrap64 (64 - ((d - 62 : Nat) : Int))) != 0) (by omega) (fun k => ?_)
        unfold fadd_sum.f
        rw [sa, Option.bind_some, sb, Option.bind_some, hsub, if_neg (by omega), show fadd_lift.f (m : Int) 62 = _ from hl, Option.bind_some, hw, hmn, if_neg (by omega), if_pos (by omega), if_pos (by omega), if_pos (by rw [w64 (by omega) (by omega)]; omega), hsh]
        rfl
      · have hmn : ¬ mn ((d : Int) - 62) 116 < 64 := by unfold mn; first | omega | (split <;> omega)
        refine fin_ 0 ((n : Int) != 0) (by omega) (fun k => ?_)
        unfold fadd_sum.f
        rw [sa, Option.bind_some, sb, Option.bind_some, hsub, if_neg (by omega), show fadd_lift.f (m : Int) 62 = _ from hl, Option.bind_some, hw, if_neg (by omega), if_neg hmn]
        rfl
theorem clr63 {a : Int} (a0 : 0 ≤ a) (a1 : a < 18446744073709551616) : Go.bits .andNot .u64 a 9223372036854775808 = a % 9223372036854775808 := by
  obtain ⟨x, rfl⟩ := Int.eq_ofNat_of_zero_le a0
  have h := u64_andNot_nat x 9223372036854775808 (by omega) (by omega)
  rw [show ((9223372036854775808 : Nat) : Int) = 9223372036854775808 from rfl] at h
  rw [h, show (18446744073709551615 - 9223372036854775808 : Nat) = 2 ^ 63 - 1 by decide, Nat.and_two_pow_sub_one_eq_mod]
  omega
-- fadd.Add of two that are not below 0, and not NaN: there is a sum, and neither is above it.
theorem cls_pos {a : Int} (h0 : 0 ≤ a) (h1 : a ≤ 9218868437227405312) : cls a ≠ 3 ∧ (cls a = 2 ↔ a = 9218868437227405312) ∧ (cls a > 1 ↔ a = 9218868437227405312) := by
  unfold cls E F
  refine ⟨?_, ?_, ?_⟩
  · split <;> split <;> omega
  · split <;> split <;> omega
  · split <;> split <;> omega
theorem odd_ev {a b : Int} (a0 : 0 ≤ a) (a1 : a ≤ 9218868437227405312) (b0 : 0 ≤ b) (b1 : b ≤ 9218868437227405312) :
    Ev (fun k => fadd_odd.f k a b) (if a = 9218868437227405312 then (a, 0, true) else if b = 9218868437227405312 then (b, 0, true) else (0, 0, false)) := by
  obtain ⟨ha3, ha2, _⟩ := cls_pos a0 a1
  obtain ⟨hb3, hb2, _⟩ := cls_pos b0 b1
  unfold fadd_odd.f
  refine Ev.bind (class_ev a0 (by omega)) (Ev.bind (class_ev b0 (by omega)) ?_)
  simp only [if_neg ha3]
  rw [show (cls b == 3) = false from beq_eq_false_iff_ne.mpr hb3]
  refine Ev.step (f := fun k => fadd_odd.j1 k a b (cls a) (cls b) false) (fun k => ?_) (Ev.no (fun k => ?_))
  · simp only [fadd_odd.j0]
    rw [if_neg (by decide)]
    by_cases g : cls a = 2
    · rw [if_pos g]
      by_cases g2 : cls b = 2
      · rw [if_pos g2, show (a != b) = false by rw [ha2.1 g, hb2.1 g2]; rfl]
      · rw [if_neg g2]
    · rw [if_neg g]
  · simp only [fadd_odd.j1]
    rw [if_neg (by decide)]
    by_cases g : cls a = 2
    · rw [if_pos g, if_pos (ha2.1 g)]
    · rw [if_neg g, if_neg (fun h => g (ha2.2 h))]
      by_cases g2 : cls b = 2
      · rw [if_pos g2, if_pos (hb2.1 g2)]
      · rw [if_neg g2, if_neg (fun h => g2 (hb2.2 h))]
theorem addj_ex {a b : Int} (a0 : 0 ≤ a) (a1 : a < 9218868437227405312) (b0 : 0 ≤ b) (b1 : b < 9218868437227405312) (h : a ≠ 0 ∨ b ≠ 0) :
    ∃ v : Int × Int, Ev (fun k => fadd_Add.j0 k a b 0 a b false) v ∧ a ≤ v.1 ∧ b ≤ v.1 ∧ v.1 ≤ 9218868437227405312 := by
  by_cases g : a < b
  · obtain ⟨v, e, v1, v2, v3⟩ := sum_ex a0 (by omega : a ≤ b) b1 (by omega)
    refine ⟨v, Ev.step (f := fun k => (fadd_sum.f k b a 0).bind fun bt180 => some (bt180.1, bt180.2)) (fun k => ?_) (Ev.bind e (Ev.now _)), by omega, by omega, by omega⟩
    simp only [fadd_Add.j0]
    rw [if_neg (by decide), if_pos g]
  · obtain ⟨v, e, v1, v2, v3⟩ := sum_ex b0 (by omega : b ≤ a) a1 (by omega)
    refine ⟨v, Ev.step (f := fun k => (fadd_sum.f k a b 0).bind fun bt180 => some (bt180.1, bt180.2)) (fun k => ?_) (Ev.bind e (Ev.now _)), by omega, by omega, by omega⟩
    simp only [fadd_Add.j0]
    rw [if_neg (by decide), if_neg g]
theorem add_ex {a b : Int} (a0 : 0 ≤ a) (a1 : a ≤ 9218868437227405312) (b0 : 0 ≤ b) (b1 : b ≤ 9218868437227405312) :
    ∃ v : Int × Int, Ev (fun k => fadd_Add.f k a b 0) v ∧ a ≤ v.1 ∧ b ≤ v.1 ∧ v.1 ≤ 9218868437227405312 := by
  have O := odd_ev a0 a1 b0 b1
  by_cases g : a = 9218868437227405312
  · rw [if_pos g] at O
    refine ⟨(a, 0), ?_, by show a ≤ a; omega, by show b ≤ a; omega, by show a ≤ _; omega⟩
    unfold fadd_Add.f
    refine Ev.bind O ?_
    simp only [if_true]; exact Ev.now _
  by_cases g2 : b = 9218868437227405312
  · rw [if_neg g, if_pos g2] at O
    refine ⟨(b, 0), ?_, by show a ≤ b; omega, by show b ≤ b; omega, by show b ≤ _; omega⟩
    unfold fadd_Add.f
    refine Ev.bind O ?_
    simp only [if_true]; exact Ev.now _
  rw [if_neg g, if_neg g2] at O
  have ca : Go.bits .andNot .u64 a 9223372036854775808 = a := by rw [clr63 a0 (by omega)]; omega
  have cb : Go.bits .andNot .u64 b 9223372036854775808 = b := by rw [clr63 b0 (by omega)]; omega
  by_cases z : a = 0 ∧ b = 0
  · obtain ⟨rfl, rfl⟩ := z
    refine ⟨(0, 0), ?_, by decide, by decide, by decide⟩
    unfold fadd_Add.f
    refine Ev.bind O ?_
    simp only [ca, if_true, if_neg (show ¬ (false = true) by decide)]
    refine Ev.no (fun k => ?_)
    simp only [fadd_Add.j0]
    rw [if_pos (by decide), show fadd_nought.f 0 0 0 = some 0 by decide +kernel]; rfl
  · obtain ⟨v, e, v1⟩ := addj_ex a0 (by omega) b0 (by omega) (by omega : a ≠ 0 ∨ b ≠ 0)
    refine ⟨v, ?_, v1⟩
    unfold fadd_Add.f
    refine Ev.bind O ?_
    simp only [ca, cb, if_neg (show ¬ (false = true) by decide)]
    by_cases q : a = b
    · simp only [if_pos q]
      simp only [if_neg (show ¬ a = 0 by omega)]
      exact e
    · simp only [if_neg q]
      by_cases q2 : a = 0
      · simp only [if_pos q2]
        rw [show (b == 0) = false from beq_eq_false_iff_ne.mpr (by omega)]
        exact e
      · simp only [if_neg q2]; exact e
theorem plus_ex {a b : Int} (a0 : 0 ≤ a) (a1 : a ≤ 9218868437227405312) (b0 : 0 ≤ b) (b1 : b ≤ 9218868437227405312) :
    ∃ v : Int, Ev (fun k => norm_plus.f k a b) v ∧ a ≤ v ∧ b ≤ v ∧ v ≤ 9218868437227405312 := by
  obtain ⟨v, e, h⟩ := add_ex a0 a1 b0 b1
  exact ⟨v.1, Ev.bind e (Ev.now _), h⟩
def PL (pl : Int → Int → Int) : Prop := ∀ a b : Int, 0 ≤ a → a ≤ 9218868437227405312 → 0 ≤ b → b ≤ 9218868437227405312 → Ev (fun k => norm_plus.f k a b) (pl a b) ∧ a ≤ pl a b ∧ b ≤ pl a b ∧ pl a b ≤ 9218868437227405312
theorem pl_ex : ∃ pl, PL pl := by
  classical
  have key : ∀ a b : Int, ∃ v : Int, 0 ≤ a → a ≤ 9218868437227405312 → 0 ≤ b → b ≤ 9218868437227405312 → Ev (fun k => norm_plus.f k a b) v ∧ a ≤ v ∧ b ≤ v ∧ v ≤ 9218868437227405312 := by
    intro a b
    by_cases h : 0 ≤ a ∧ a ≤ 9218868437227405312 ∧ 0 ≤ b ∧ b ≤ 9218868437227405312
    · obtain ⟨v, hv⟩ := plus_ex h.1 h.2.1 h.2.2.1 h.2.2.2
      exact ⟨v, fun _ _ _ _ => hv⟩
    · exact ⟨0, fun h1 h2 h3 h4 => absurd ⟨h1, h2, h3, h4⟩ h⟩
  exact ⟨fun a b => Classical.choose (key a b), fun a b => Classical.choose_spec (key a b)⟩
-- Words of 64 bits.
def U64s (l : List Int) : Prop := ∀ x ∈ l, 0 ≤ x ∧ x < 18446744073709551616
theorem u64s_of {l : List Int} (h : ∀ x ∈ l, (Lit.int .u64 x).wf = true) : U64s l := fun x hx => u64_bd (h x hx)
theorem u64s_get {l : List Int} (h : U64s l) (i : Nat) : 0 ≤ l.getD i 0 ∧ l.getD i 0 < 18446744073709551616 := by
  rw [List.getD_eq_getElem?_getD]
  by_cases g : i < l.length
  · rw [List.getElem?_eq_getElem g]; exact h _ (List.getElem_mem g)
  · rw [List.getElem?_eq_none (by omega)]; simp
-- fcmp.Abs, fcmp.Max.
def absF (a : Int) : Int := if cls a = 3 then 9221120237041090560 else a % 9223372036854775808
theorem is_ev {a : Int} (h0 : 0 ≤ a) (h1 : a < 18446744073709551616) : Ev (fun k => fcmp_is.f k a) (cls a == 3) := by
  unfold fcmp_is.f
  exact Ev.bind (class_ev h0 h1) (Ev.now _)
theorem abs_ev {a : Int} (h0 : 0 ≤ a) (h1 : a < 18446744073709551616) : Ev (fun k => fcmp_Abs.f k a) (absF a) := by
  unfold fcmp_Abs.f
  refine Ev.bind (is_ev h0 h1) ?_
  rw [clr63 h0 h1]
  unfold absF
  by_cases g : cls a = 3
  · rw [g]; simp only [if_true, beq_self_eq_true]; exact Ev.now _
  · rw [beq_eq_false_iff_ne.mpr g]; simp only [if_neg g, if_neg (show ¬ (false = true) by decide)]; exact Ev.now _
def mxL : List Int → Int → Int
  | [], s => s
  | a :: l, s => mxL l (mx s (a % 9223372036854775808))
theorem max_l {l : List Int} (hl : U64s l) (hc : ∀ x ∈ l, cls x ≠ 3) (hm : l.length < 9223372036854775807) (d : Nat) : ∀ (i : Nat) (s : Int), i + d = l.length → Ev (fun k => fcmp_Max.l0 k s l (l.length : Int) i) (mxL (l.drop i) s) := by
  induction d with
  | zero =>
    intro i s hi
    refine Ev.no (fun k => ?_)
    simp only [fcmp_Max.l0]
    rw [if_neg (by omega), List.drop_of_length_le (by omega)]; rfl
  | succ d ih =>
    intro i s hi
    have h1 : i < l.length := by omega
    have e1 : l.drop i = l.getD i 0 :: l.drop (i + 1) := by rw [List.getD_eq_getElem?_getD, List.getElem?_eq_getElem h1, List.drop_eq_getElem_cons h1]; rfl
    obtain ⟨b0, b1⟩ := u64s_get hl i
    have hc' : cls (l.getD i 0) ≠ 3 := by rw [List.getD_eq_getElem?_getD, List.getElem?_eq_getElem h1]; exact hc _ (List.getElem_mem h1)
    refine Ev.step (f := fun k => (fcmp_is.f k (l.getD i 0)).bind fun t189 => (if t189 = true then (some 9221120237041090560) else (fcmp_Max.l0 k (mx s (l.getD i 0 % 9223372036854775808)) l (l.length : Int) ((i + 1 : Nat) : Int)))) (fun k => ?_) (Ev.bind (is_ev b0 b1) ?_)
    · simp only [fcmp_Max.l0]
      rw [if_pos (by omega), if_pos (by omega), if_pos (by omega), rd_nat, wsucc _ (by omega), clr63 b0 b1]
    · rw [e1, beq_eq_false_iff_ne.mpr hc']
      simp only [if_neg (show ¬ (false = true) by decide)]
      exact ih (i + 1) _ (by omega)
theorem max_ev {l : List Int} (hl : U64s l) (hc : ∀ x ∈ l, cls x ≠ 3) (hm : l.length < 9223372036854775807) : Ev (fun k => fcmp_Max.f k l) (mxL l 0) := max_l hl hc hm l.length 0 0 (by omega)
theorem max_two_ev {a b : Int} (a0 : 0 ≤ a) (a1 : a ≤ 9218868437227405312) (b0 : 0 ≤ b) (b1 : b ≤ 9218868437227405312) : Ev (fun k => fcmp_Max.f k [a, b]) (mx a b) := by
  have h := max_ev (l := [a, b]) (by intro x hx; simp only [List.mem_cons, List.not_mem_nil, or_false] at hx; rcases hx with rfl | rfl <;> omega) (by intro x hx; simp only [List.mem_cons, List.not_mem_nil, or_false] at hx; rcases hx with rfl | rfl; exact (cls_pos a0 a1).1; exact (cls_pos b0 b1).1) (show 2 < 9223372036854775807 by decide)
  have e : mxL [a, b] 0 = mx a b := by
    show mx (mx 0 (a % 9223372036854775808)) (b % 9223372036854775808) = mx a b
    rw [show a % 9223372036854775808 = a by omega, show b % 9223372036854775808 = b by omega, show mx 0 a = a by unfold mx; split <;> omega]
  rw [e] at h; exact h
-- What the printed functions of the package shape come to.
def okMat (m n : Int) (l : List Int) : Prop := 1 ≤ m ∧ m ≤ 64 ∧ 1 ≤ n ∧ n ≤ 64 ∧ (l.length : Int) = m * n
instance (m n : Int) (l : List Int) : Decidable (okMat m n l) := by unfold okMat; infer_instance
theorem prod_le {m n : Int} (h0 : 1 ≤ m) (h1 : m ≤ 64) (h2 : 1 ≤ n) (h3 : n ≤ 64) : 1 ≤ m * n ∧ m * n ≤ 4096 := by
  constructor
  · have := Int.mul_le_mul h0 h2 (by omega) (by omega); omega
  · have := Int.mul_le_mul h1 h3 (by omega) (by omega); omega
theorem wprod {m n : Int} (h0 : 1 ≤ m) (h1 : m ≤ 64) (h2 : 1 ≤ n) (h3 : n ≤ 64) : wrap64 (m * n) = m * n := by
  have := prod_le h0 h1 h2 h3; exact w64 (by omega) (by omega)
theorem side_eq (n : Int) : shape_side.f n = some (decide (1 ≤ n ∧ n ≤ 64)) := by
  unfold shape_side.f
  by_cases h : n ≥ 1
  · rw [if_pos h]; congr 1; rw [decide_eq_decide]; omega
  · rw [if_neg h]; congr 1; rw [eq_comm, decide_eq_false_iff_not]; omega
theorem check_eq (m n : Int) (l : List Int) : shape_Check.f m n l = some (if okMat m n l then 0 else 11) := by
  unfold shape_Check.f
  rw [side_eq, Option.bind_some]
  by_cases h1 : 1 ≤ m ∧ m ≤ 64
  · rw [decide_eq_true h1, if_pos rfl, side_eq, Option.bind_some]
    by_cases h2 : 1 ≤ n ∧ n ≤ 64
    · rw [decide_eq_true h2, if_pos rfl, wprod h1.1 h1.2 h2.1 h2.2]
      by_cases h3 : (l.length : Int) = m * n
      · rw [if_pos h3, if_pos (show okMat m n l from ⟨h1.1, h1.2, h2.1, h2.2, h3⟩)]
      · rw [if_neg h3, if_neg (fun h : okMat m n l => h3 h.2.2.2.2)]
    · rw [decide_eq_false h2, if_neg (by decide), if_neg (fun h : okMat m n l => h2 ⟨h.2.2.1, h.2.2.2.1⟩)]
  · rw [decide_eq_false h1, if_neg (by decide), if_neg (fun h : okMat m n l => h1 ⟨h.1, h.2.1⟩)]
-- shape.Finite, with the function that it hands on.
def badF (l : List Int) : Bool := l.any (fun a => decide (cls a > 1))
theorem fin1_ev {a : Int} (h0 : 0 ≤ a) (h1 : a < 18446744073709551616) : Ev (fun k => shape_Finite_1.f k a) (decide (cls a > 1)) := by
  unfold shape_Finite_1.f
  exact Ev.bind (class_ev h0 h1) (Ev.now _)
theorem contains_l {l : List Int} (hl : U64s l) (hm : l.length ≤ 9223372036854775807) (d : Nat) : ∀ i : Nat, i + d = l.length → Ev (fun k => slices_ContainsFunc_uint64_uint64.l0 k l i) (badF (l.drop i)) := by
  induction d with
  | zero =>
    intro i hi
    refine Ev.no (fun k => ?_)
    simp only [slices_ContainsFunc_uint64_uint64.l0]
    rw [if_neg (by omega), List.drop_of_length_le (by omega)]; rfl
  | succ d ih =>
    intro i hi
    have h1 : i < l.length := by omega
    have e1 : l.drop i = l.getD i 0 :: l.drop (i + 1) := by rw [List.getD_eq_getElem?_getD, List.getElem?_eq_getElem h1, List.drop_eq_getElem_cons h1]; rfl
    obtain ⟨b0, b1⟩ := u64s_get hl i
    refine Ev.step (f := fun k => (shape_Finite_1.f k (l.getD i 0)).bind fun t => if t = true then (some true) else (slices_ContainsFunc_uint64_uint64.l0 k l ((i + 1 : Nat) : Int))) (fun k => ?_) (Ev.bind (fin1_ev b0 b1) ?_)
    · simp only [slices_ContainsFunc_uint64_uint64.l0]
      rw [if_pos (by omega), if_pos (by omega), rd_nat, wsucc _ (by omega)]
    · rw [e1]
      unfold badF
      rw [List.any_cons]
      by_cases g : cls (l.getD i 0) > 1
      · rw [decide_eq_true g]; simp only [if_true, Bool.true_or]; exact Ev.now _
      · rw [decide_eq_false g]; simp only [if_neg (show ¬ (false = true) by decide), Bool.false_or]; exact ih (i + 1) (by omega)
theorem contains_ev {l : List Int} (hl : U64s l) (hm : l.length ≤ 9223372036854775807) : Ev (fun k => slices_ContainsFunc_uint64_uint64.f k l) (badF l) := contains_l hl hm l.length 0 (by omega)
theorem finite_ev (m n : Int) {l : List Int} (hl : U64s l) (hm : l.length ≤ 9223372036854775807) : Ev (fun k => shape_Finite.f k m n l) (if okMat m n l then (if badF l then 12 else 0) else 11) := by
  unfold shape_Finite.f
  rw [check_eq]
  simp only [Option.bind_some]
  by_cases h : okMat m n l
  · simp only [if_pos h, if_true]
    refine Ev.bind (contains_ev hl hm) ?_
    cases badF l <;> exact Ev.now _
  · simp only [if_neg h, if_neg (show ¬ (11 : Int) = 0 by decide)]; exact Ev.now _
/-- The matrix, transposed: of r rows, c columns. -/
def tr (r c : Nat) (l : List Int) : List Int := mk (c * r) (fun k => l.getD (k % r * c + k / r) 0)
def trP (r c : Nat) (l : List Int) (i j : Nat) : List Int := mk (c * r) (fun k => if k % r < i ∨ (k % r = i ∧ k / r < j) then l.getD (k % r * c + k / r) 0 else 0)
theorem trP_set (r c : Nat) (l : List Int) (i j : Nat) (hi : i < r) : (trP r c l i j).set (j * r + i) (l.getD (i * c + j) 0) = trP r c l i (j + 1) := by
  unfold trP
  rw [mk_set]
  refine mk_congr (fun k hk => ?_)
  have hr : k % r < r := Nat.mod_lt _ (by omega)
  by_cases e : k = j * r + i
  · rw [if_pos e, e, place_mod hi, place_div hi, if_pos (by omega)]
  · rw [if_neg e]
    have hne : ¬ (k % r = i ∧ k / r = j) := fun h => e (by rw [← h.1, ← h.2]; exact (place_of k r).symm)
    by_cases h : k % r < i ∨ (k % r = i ∧ k / r < j)
    · rw [if_pos h, if_pos (by omega)]
    · rw [if_neg h, if_neg (by omega)]
theorem trP_row (r c : Nat) (l : List Int) (i : Nat) : trP r c l i c = trP r c l (i + 1) 0 := by
  refine mk_congr (fun k hk => ?_)
  have hc : k / r < c := div_lt_of hk
  generalize k / r = q at *
  by_cases h : k % r < i + 1
  · rw [if_pos (by omega), if_pos (by omega)]
  · rw [if_neg (by omega), if_neg (by omega)]
theorem trP_end (r c : Nat) (l : List Int) : trP r c l r 0 = tr r c l := by
  refine mk_congr (fun k hk => ?_)
  have hr : k % r < r := mod_lt_of hk
  rw [if_pos (by omega)]
theorem trP_zero (r c : Nat) (l : List Int) : trP r c l 0 0 = List.replicate (c * r) 0 := by
  rw [mk_const]
  refine mk_congr (fun k hk => ?_)
  generalize k / r = q
  rw [if_neg (by omega)]
theorem tr_inner (r c : Nat) (l : List Int) (hr : r ≤ 64) (hc : c ≤ 64) (hl : l.length = r * c) (R : Int × Int × List Int × Int) (i : Nat) (hi : i < r)
    (next : Ev (fun k => shape_Transpose.l0 k r ((i + 1 : Nat) : Int) r c l c r (trP r c l (i + 1) 0)) R) (d : Nat) : ∀ j : Nat, j + d = c → Ev (fun k => shape_Transpose.l1 k i r i c j r c l c r (trP r c l i j)) R := by
  have hb : r * c ≤ 64 * 64 := Nat.mul_le_mul hr hc
  have hb' : c * r ≤ 64 * 64 := Nat.mul_le_mul hc hr
  induction d with
  | zero =>
    intro j hj
    obtain rfl : j = c := by omega
    refine Ev.step (f := fun k => shape_Transpose.l0 k r ((i + 1 : Nat) : Int) r j l j r (trP r j l (i + 1) 0)) (fun k => ?_) next
    simp only [shape_Transpose.l1]; rw [if_neg (by omega), wsucc _ (by omega), trP_row]
  | succ d ih =>
    intro j hj
    have h1 := place_lt (i := i) (j := j) hi (by omega : j < c)
    have h2 := place_lt (i := j) (j := i) (by omega : j < c) hi
    refine Ev.step (f := fun k => shape_Transpose.l1 k i r i c ((j + 1 : Nat) : Int) r c l c r (trP r c l i (j + 1))) (fun k => ?_) (ih (j + 1) (by omega))
    simp only [shape_Transpose.l1]
    rw [if_pos (by omega), wmul i c (by omega), wadd _ _ (by omega), if_pos (by omega), if_pos (by omega), wmul j r (by omega), wadd _ _ (by omega), if_pos (by omega), if_pos (by unfold trP; rw [mk_len]; omega)]
    rw [wsucc _ (by omega), rd_nat, Int.toNat_natCast, trP_set r c l i j hi]
theorem tr_outer (r c : Nat) (l : List Int) (hr : r ≤ 64) (hc : c ≤ 64) (hl : l.length = r * c) (d : Nat) : ∀ i : Nat, i + d = r → Ev (fun k => shape_Transpose.l0 k r i r c l c r (trP r c l i 0)) ((c : Int), (r : Int), tr r c l, 0) := by
  induction d with
  | zero =>
    intro i hi
    obtain rfl : i = r := by omega
    refine Ev.no (fun k => ?_)
    simp only [shape_Transpose.l0]; rw [if_neg (by omega), trP_end]
  | succ d ih =>
    intro i hi
    refine Ev.step (f := fun k => shape_Transpose.l1 k i r i c ((0 : Nat) : Int) r c l c r (trP r c l i 0)) (fun k => ?_) (tr_inner r c l hr hc hl _ i (by omega) (ih (i + 1) (by omega)) c 0 (by omega))
    simp only [shape_Transpose.l0]; rw [if_pos (by omega)]; rfl
theorem transpose_no {m n : Int} {l : List Int} (h : ¬ okMat m n l) : Ev (fun k => shape_Transpose.f k m n l) (0, 0, [], 11) := by
  refine Ev.congr (f := fun _ => some (0, 0, [], 11)) (fun k => ?_) (Ev.now _)
  unfold shape_Transpose.f
  rw [check_eq, Option.bind_some, if_neg h, if_neg (by decide)]
theorem transpose_ok {r c : Nat} {l : List Int} (h : okMat r c l) : Ev (fun k => shape_Transpose.f k r c l) ((c : Int), (r : Int), tr r c l, 0) := by
  obtain ⟨h1, h2, h3, h4, h5⟩ := h
  have h6 : l.length = r * c := by exact_mod_cast h5
  have hb : r * c ≤ 64 * 64 := Nat.mul_le_mul (by omega) (by omega)
  refine Ev.congr (f := fun k => shape_Transpose.l0 k r ((0 : Nat) : Int) r c l c r (trP r c l 0 0)) (fun k => ?_) (tr_outer r c l (by omega) (by omega) h6 r 0 (by omega))
  unfold shape_Transpose.f
  rw [check_eq, Option.bind_some, if_pos (show okMat r c l from ⟨h1, h2, h3, h4, h5⟩), if_pos rfl, if_pos (by omega), if_pos (by omega), trP_zero, Int.toNat_natCast, h6, Nat.mul_comm c r]; rfl
theorem tr_len (r c : Nat) (l : List Int) : (tr r c l).length = c * r := mk_len _ _
theorem tr_tr (r c : Nat) (l : List Int) (hl : l.length = r * c) : tr c r (tr r c l) = l := by
  symm
  refine mk_eq hl (fun k hk => ?_)
  have h1 : k % c < c := mod_lt_of hk
  have h2 : k / c < r := div_lt_of hk
  unfold tr
  rw [mk_get _ _ _ (place_lt h1 h2), place_mod h2, place_div h2, place_of]
theorem tr_at (r c : Nat) (l : List Int) {i j : Nat} (hi : i < r) (hj : j < c) : (tr r c l).getD (j * r + i) 0 = l.getD (i * c + j) 0 := by
  unfold tr; rw [mk_get _ _ _ (place_lt hj hi), place_mod hi, place_div hi]
-- norm.Inf and norm.One: the greatest row's and column's sum, by any adding.
def rsum (pl : Int → Int → Int) (g : Nat → Int) : Nat → Int
  | 0 => 0
  | j + 1 => pl (rsum pl g j) (g j)
def bsum (f : Nat → Int) : Nat → Int
  | 0 => 0
  | i + 1 => mx (bsum f i) (f i)
def rowF (pl : Int → Int → Int) (l : List Int) (n i : Nat) : Int := rsum pl (fun j => absF (l.getD (i * n + j) 0)) n
def toldV (v : Int) : Int × Int := if cls v > 1 then (0, 13) else (v, 0)
def infV (pl : Int → Int → Int) (m n : Nat) (l : List Int) : Int × Int := toldV (bsum (rowF pl l n) m)
theorem rsum_congr {pl : Int → Int → Int} {g g' : Nat → Int} : ∀ n, (∀ j, j < n → g j = g' j) → rsum pl g n = rsum pl g' n
  | 0, _ => rfl
  | n + 1, h => by
    show pl (rsum pl g n) (g n) = pl (rsum pl g' n) (g' n)
    rw [rsum_congr n (fun j hj => h j (by omega)), h n (by omega)]
theorem bsum_congr {f f' : Nat → Int} : ∀ n, (∀ j, j < n → f j = f' j) → bsum f n = bsum f' n
  | 0, _ => rfl
  | n + 1, h => by
    show mx (bsum f n) (f n) = mx (bsum f' n) (f' n)
    rw [bsum_congr n (fun j hj => h j (by omega)), h n (by omega)]
theorem rsum_bd {pl : Int → Int → Int} (hp : PL pl) {g : Nat → Int} (hg : ∀ j, 0 ≤ g j ∧ g j ≤ 9218868437227405312) : ∀ n, 0 ≤ rsum pl g n ∧ rsum pl g n ≤ 9218868437227405312
  | 0 => ⟨Int.le_refl 0, by show (0 : Int) ≤ 9218868437227405312; decide⟩
  | n + 1 => by
    have h := rsum_bd hp hg n
    have q := hp (rsum pl g n) (g n) h.1 h.2 (hg n).1 (hg n).2
    exact ⟨by show 0 ≤ pl _ _; omega, q.2.2.2⟩
theorem rsum_ge {pl : Int → Int → Int} (hp : PL pl) {g : Nat → Int} (hg : ∀ j, 0 ≤ g j ∧ g j ≤ 9218868437227405312) : ∀ n j, j < n → g j ≤ rsum pl g n
  | n + 1, j, hj => by
    have h := rsum_bd hp hg n
    have q := hp (rsum pl g n) (g n) h.1 h.2 (hg n).1 (hg n).2
    by_cases e : j = n
    · subst e; exact q.2.2.1
    · have := rsum_ge hp hg n j (by omega)
      show g j ≤ pl _ _; omega
theorem bsum_bd {f : Nat → Int} (hf : ∀ j, 0 ≤ f j ∧ f j ≤ 9218868437227405312) : ∀ n, 0 ≤ bsum f n ∧ bsum f n ≤ 9218868437227405312
  | 0 => ⟨Int.le_refl 0, by show (0 : Int) ≤ 9218868437227405312; decide⟩
  | n + 1 => by
    have h := bsum_bd hf n
    have q := hf n
    show 0 ≤ mx _ _ ∧ mx _ _ ≤ _
    unfold mx; split <;> omega
theorem bsum_ge {f : Nat → Int} : ∀ n j, j < n → f j ≤ bsum f n
  | n + 1, j, hj => by
    show f j ≤ mx _ _
    by_cases e : j = n
    · subst e; unfold mx; split <;> omega
    · have := bsum_ge (f := f) n j (by omega)
      unfold mx; split <;> omega
theorem bad_get {l : List Int} (_hl : U64s l) (hb : badF l = false) (i : Nat) : cls (l.getD i 0) ≤ 1 := by
  rw [List.getD_eq_getElem?_getD]
  by_cases g : i < l.length
  · rw [List.getElem?_eq_getElem g]
    unfold badF at hb
    rw [List.any_eq_false] at hb
    have := hb l[i] (List.getElem_mem g)
    have h2 : ¬ cls l[i] > 1 := fun h => this (decide_eq_true h)
    show cls l[i] ≤ 1
    omega
  · rw [List.getElem?_eq_none (by omega)]; decide
theorem abs_bd {a : Int} (hc : cls a ≤ 1) : absF a = a % 9223372036854775808 ∧ 0 ≤ absF a ∧ absF a ≤ 9218868437227405312 := by
  have h3 : ¬ cls a = 3 := by omega
  unfold absF
  rw [if_neg h3]
  refine ⟨rfl, by omega, ?_⟩
  unfold cls E F at hc
  split at hc
  · split at hc <;> omega
  · omega
theorem cut_get (l : List Int) {a b j : Nat} (h : a + j < b) : (List.drop a (List.take b l)).getD j 0 = l.getD (a + j) 0 := by
  rw [List.getD_eq_getElem?_getD, List.getD_eq_getElem?_getD, List.getElem?_drop, List.getElem?_take, if_pos h]
theorem inf_in {pl : Int → Int → Int} (hp : PL pl) {m n : Nat} {l : List Int} (hl : U64s l) (hb : badF l = false) (hlen : l.length = m * n) (hm : m ≤ 64) (hn : n ≤ 64) {i : Nat} (hi : i < m) {best : Int} (b0 : 0 ≤ best) (b1 : best ≤ 9218868437227405312) {R : Int × Int}
    (next : Ev (fun k => norm_Inf.l0 k (mx best (rowF pl l n i)) m ((i + 1 : Nat) : Int) m n l) R) (d : Nat) : ∀ j : Nat, j + d = n →
    Ev (fun k => norm_Inf.l1 k best (rsum pl (fun j => absF (l.getD (i * n + j) 0)) j) m i (List.drop (i * n) (List.take ((i + 1) * n) l)) (n : Int) j m n l) R := by
  have hg : ∀ j, 0 ≤ absF (l.getD (i * n + j) 0) ∧ absF (l.getD (i * n + j) 0) ≤ 9218868437227405312 := fun j => (abs_bd (bad_get hl hb _)).2
  have hmn : (i + 1) * n ≤ m * n := Nat.mul_le_mul_right _ hi
  have hL : (List.drop (i * n) (List.take ((i + 1) * n) l)).length = n := by
    rw [List.length_drop, List.length_take, Nat.min_eq_left (by omega), Nat.add_mul]; omega
  induction d with
  | zero =>
    intro j hj
    obtain rfl : j = n := by omega
    have r := rsum_bd hp hg j
    refine Ev.step (f := fun k => (fcmp_Max.f k [best, rsum pl (fun j' => absF (l.getD (i * j + j') 0)) j]).bind fun t202 => (norm_Inf.l0 k t202 m ((i + 1 : Nat) : Int) m j l)) (fun k => ?_) (Ev.bind (max_two_ev b0 b1 r.1 r.2) next)
    simp only [norm_Inf.l1]
    rw [if_neg (by omega), wsucc i (by omega)]
  | succ d ih =>
    intro j hj
    have r := rsum_bd hp hg j
    obtain ⟨u0, u1⟩ := u64s_get hl (i * n + j)
    have q := hg j
    refine Ev.step (f := fun k => (fcmp_Abs.f k (l.getD (i * n + j) 0)).bind fun t197 => ((norm_plus.f k (rsum pl (fun j => absF (l.getD (i * n + j) 0)) j) t197).bind fun t198 => (norm_Inf.l1 k best t198 m i (List.drop (i * n) (List.take ((i + 1) * n) l)) (n : Int) ((j + 1 : Nat) : Int) m n l))) (fun k => ?_)
      (Ev.bind (abs_ev u0 u1) (Ev.bind (hp _ _ r.1 r.2 q.1 q.2).1 (ih (j + 1) (by omega))))
    simp only [norm_Inf.l1]
    rw [if_pos (by omega), if_pos (by omega), if_pos (by rw [hL]; omega), rd_nat, cut_get l (by rw [Nat.add_mul]; omega), wsucc j (by omega)]
theorem rowF_bd {pl : Int → Int → Int} (hp : PL pl) {l : List Int} (hl : U64s l) (hb : badF l = false) (n i : Nat) : 0 ≤ rowF pl l n i ∧ rowF pl l n i ≤ 9218868437227405312 := rsum_bd hp (fun _ => (abs_bd (bad_get hl hb _)).2) n
theorem inf_out {pl : Int → Int → Int} (hp : PL pl) {m n : Nat} {l : List Int} (hl : U64s l) (hb : badF l = false) (hlen : l.length = m * n) (hm : m ≤ 64) (hn : n ≤ 64) (d : Nat) : ∀ i : Nat, i + d = m →
    Ev (fun k => norm_Inf.l0 k (bsum (rowF pl l n) i) m i m n l) (infV pl m n l) := by
  have hf := rowF_bd hp hl hb n
  induction d with
  | zero =>
    intro i hi
    obtain rfl : i = m := by omega
    have r := bsum_bd hf i
    refine Ev.step (f := fun k => (norm_told.f k (bsum (rowF pl l n) i)).bind fun bt193 => some (bt193.1, bt193.2)) (fun k => ?_) ?_
    · simp only [norm_Inf.l0]; rw [if_neg (by omega)]
    · unfold infV toldV norm_told.f
      refine Ev.bind (a := toldV (bsum (rowF pl l n) i)) (Ev.bind (class_ev r.1 (by omega)) ?_) (Ev.now _)
      unfold toldV
      by_cases g : cls (bsum (rowF pl l n) i) > 1
      · simp only [if_pos g]; exact Ev.now _
      · simp only [if_neg g]; exact Ev.now _
  | succ d ih =>
    intro i hi
    have r := bsum_bd hf i
    have hmn : (i + 1) * n ≤ m * n := Nat.mul_le_mul_right _ (by omega)
    have hmn2 : m * n ≤ 64 * 64 := Nat.mul_le_mul hm hn
    have hin : i * n ≤ (i + 1) * n := Nat.mul_le_mul_right _ (by omega)
    have hL : (List.drop (i * n) (List.take ((i + 1) * n) l)).length = n := by
      rw [List.length_drop, List.length_take, Nat.min_eq_left (by omega), Nat.add_mul]; omega
    have T := inf_in hp hl hb hlen hm hn (i := i) (by omega) r.1 r.2 (ih (i + 1) (by omega)) n 0 (by omega)
    refine Ev.step (fun k => ?_) T
    simp only [norm_Inf.l0]
    rw [if_pos (by omega), wmul i n (by omega), wsucc i (by omega), wmul (i + 1) n (by omega), if_pos (by omega), if_pos (by omega), if_pos (by omega), Int.toNat_natCast, Int.toNat_natCast, hL]
    rfl
theorem inf_ev {pl : Int → Int → Int} (hp : PL pl) {m n : Nat} {l : List Int} (hl : U64s l) (h : okMat m n l) : Ev (fun k => norm_Inf.f k m n l) (if badF l then (0, 12) else infV pl m n l) := by
  have h' := h
  obtain ⟨h1, h2, h3, h4, h5⟩ := h
  have hlen : l.length = m * n := by exact_mod_cast h5
  have hmn2 : m * n ≤ 64 * 64 := Nat.mul_le_mul (by omega) (by omega)
  have F := finite_ev (m : Int) (n : Int) hl (by omega)
  rw [if_pos h'] at F
  unfold norm_Inf.f
  refine Ev.bind F ?_
  cases hb : badF l with
  | true => exact Ev.now _
  | false =>
    simp only [if_true, if_neg (show ¬ (false = true) by decide)]
    exact inf_out hp hl hb hlen (by omega) (by omega) m 0 (by omega)
theorem tr_mem {r c : Nat} {l : List Int} (hl : l.length = r * c) {x : Int} (hx : x ∈ tr r c l) : x ∈ l := by
  unfold tr mk at hx
  obtain ⟨k, hk, rfl⟩ := List.mem_map.1 hx
  have hk' := List.mem_range.1 hk
  have : k % r * c + k / r < l.length := by
    rw [hl]
    exact place_lt (mod_lt_of (by rw [Nat.mul_comm] at hk' ⊢; first | exact hk' | (rw [Nat.mul_comm]; exact hk'))) (div_lt_of hk')
  rw [List.getD_eq_getElem?_getD, List.getElem?_eq_getElem this]
  exact List.getElem_mem this
theorem mem_tr {r c : Nat} {l : List Int} (hl : l.length = r * c) {x : Int} (hx : x ∈ l) : x ∈ tr r c l := by
  rw [← tr_tr r c l hl] at hx
  exact tr_mem (by rw [tr_len]) hx
theorem tr_bad {r c : Nat} {l : List Int} (hl : l.length = r * c) : badF (tr r c l) = badF l := by
  unfold badF
  rw [Bool.eq_iff_iff, List.any_eq_true, List.any_eq_true]
  exact ⟨fun ⟨x, hx, h⟩ => ⟨x, tr_mem hl hx, h⟩, fun ⟨x, hx, h⟩ => ⟨x, mem_tr hl hx, h⟩⟩
theorem one_ev {pl : Int → Int → Int} (hp : PL pl) {m n : Nat} {l : List Int} (hl : U64s l) (h : okMat m n l) : Ev (fun k => norm_One.f k m n l) (if badF l then (0, 12) else infV pl n m (tr m n l)) := by
  have h' := h
  obtain ⟨h1, h2, h3, h4, h5⟩ := h
  have hlen : l.length = m * n := by exact_mod_cast h5
  have hmn2 : m * n ≤ 64 * 64 := Nat.mul_le_mul (by omega) (by omega)
  have F := finite_ev (m : Int) (n : Int) hl (by omega)
  rw [if_pos h'] at F
  have I := inf_ev hp (m := n) (n := m) (l := tr m n l) (fun x hx => hl x (tr_mem hlen hx)) ⟨h3, h4, h1, h2, by rw [tr_len]; exact_mod_cast rfl⟩
  rw [tr_bad hlen] at I
  unfold norm_One.f
  refine Ev.bind F ?_
  cases hb : badF l with
  | true => exact Ev.now _
  | false =>
    simp only [if_true, if_neg (show ¬ (false = true) by decide)]
    refine Ev.bind (transpose_ok h') ?_
    rw [hb] at I
    refine Ev.bind I ?_
    exact Ev.now _
theorem alive23 : Ev (fun k => vernierlaw23_alive.f k) true := Ev.of vernierlaw23_alive.mono (k := 200) (by decide +kernel)
def sgnEq (l l' : List Int) : Prop := l'.length = l.length ∧ U64s l' ∧ ∀ i : Nat, l'.getD i 0 % 9223372036854775808 = l.getD i 0 % 9223372036854775808
theorem cls_mod {a b : Int} (h : a % 9223372036854775808 = b % 9223372036854775808) : cls a = cls b := by
  have e1 : E a = E b := by unfold E; omega
  have e2 : F a = F b := by unfold F; omega
  unfold cls; rw [e1, e2]
theorem abs_mod {a b : Int} (h : a % 9223372036854775808 = b % 9223372036854775808) : absF a = absF b := by
  unfold absF; rw [cls_mod h, h]
theorem xor63 {a : Int} (h0 : 0 ≤ a) (h1 : a < 18446744073709551616) : (Go.bits .xor .u64 a 9223372036854775808) % 9223372036854775808 = a % 9223372036854775808 ∧ 0 ≤ Go.bits .xor .u64 a 9223372036854775808 ∧ Go.bits .xor .u64 a 9223372036854775808 < 18446744073709551616 := by
  obtain ⟨x, rfl⟩ := Int.eq_ofNat_of_zero_le h0
  have h := u64_xor_nat x 9223372036854775808 (by omega) (by omega)
  rw [show ((9223372036854775808 : Nat) : Int) = 9223372036854775808 from rfl] at h
  rw [h]
  have b : x ^^^ 9223372036854775808 < 2 ^ 64 := Nat.xor_lt_two_pow (by omega) (by omega)
  have m : (x ^^^ 9223372036854775808) % 2 ^ 63 = x % 2 ^ 63 := by rw [Nat.xor_mod_two_pow]; simp
  generalize x ^^^ 9223372036854775808 = z at *
  omega
theorem sgn_step {l l' : List Int} (h : sgnEq l l') {i : Nat} (hi : i < l'.length) : sgnEq l (l'.set i (Go.bits .xor .u64 (rd l' (i : Int)) 9223372036854775808)) := by
  obtain ⟨h1, h2, h3⟩ := h
  obtain ⟨g0, g1⟩ := u64s_get h2 i
  obtain ⟨x1, x2, x3⟩ := xor63 g0 g1
  rw [rd_nat]
  refine ⟨by rw [List.length_set, h1], fun x hx => ?_, fun j => ?_⟩
  · rcases List.mem_or_eq_of_mem_set hx with hx | rfl
    · exact h2 x hx
    · exact ⟨x2, x3⟩
  · rw [List.getD_eq_getElem?_getD, List.getElem?_set]
    by_cases e : i = j
    · subst e
      rw [if_pos rfl, if_pos hi]
      exact x1.trans (h3 i)
    · rw [if_neg e, ← List.getD_eq_getElem?_getD]; exact h3 j
theorem sgn_bad {l l' : List Int} (h : sgnEq l l') : badF l' = badF l := by
  obtain ⟨h1, _, h3⟩ := h
  unfold badF
  rw [Bool.eq_iff_iff, List.any_eq_true, List.any_eq_true]
  have key : ∀ (a b : List Int), a.length = b.length → (∀ i : Nat, a.getD i 0 % 9223372036854775808 = b.getD i 0 % 9223372036854775808) → (∃ x, x ∈ a ∧ decide (cls x > 1) = true) → ∃ x, x ∈ b ∧ decide (cls x > 1) = true := by
    rintro a b e1 e2 ⟨x, hx, hd⟩
    obtain ⟨i, hi, rfl⟩ := List.getElem_of_mem hx
    refine ⟨b[i]'(by omega), List.getElem_mem _, ?_⟩
    have := e2 i
    rw [List.getD_eq_getElem?_getD, List.getD_eq_getElem?_getD, List.getElem?_eq_getElem hi, List.getElem?_eq_getElem (show i < b.length by omega)] at this
    have this' : a[i] % 9223372036854775808 = (b[i]'(by omega)) % 9223372036854775808 := this
    rw [← cls_mod this']; exact hd
  exact ⟨key l' l h1 h3, key l l' h1.symm (fun i => (h3 i).symm)⟩
theorem sgn_inf {pl : Int → Int → Int} {l l' : List Int} (h : sgnEq l l') (m n : Nat) : infV pl n m (tr m n l') = infV pl n m (tr m n l) := by
  unfold infV
  congr 1
  refine bsum_congr n (fun i hi => rsum_congr m (fun j hj => abs_mod ?_))
  rw [tr_at m n l' hj hi, tr_at m n l hj hi]
  exact h.2.2 _
theorem turns_end {pl : Int → Int → Int} (hp : PL pl) {m n : Nat} {l l' : List Int} (hl : U64s l) (h : okMat m n l) (hs : sgnEq l l') (sg_ : List Bool) (i : Int) :
    Ev (fun k => vernierlaw23_NormTurns.j1 k sg_ i false m n l n m (tr m n l) m n l') true := by
  have h' := h
  obtain ⟨h1, h2, h3, h4, h5⟩ := h
  have hlen : l.length = m * n := by exact_mod_cast h5
  have O := one_ev hp hl h'
  have I := inf_ev hp (m := n) (n := m) (l := tr m n l) (fun x hx => hl x (tr_mem hlen hx)) ⟨h3, h4, h1, h2, by rw [tr_len]; exact_mod_cast rfl⟩
  rw [tr_bad hlen] at I
  have O' := one_ev hp hs.2.1 (m := m) (n := n) (l := l') ⟨h1, h2, h3, h4, by rw [hs.1]; exact h5⟩
  rw [sgn_bad hs, sgn_inf hs] at O'
  obtain ⟨A, hA⟩ : ∃ A : Int × Int, (if badF l then ((0 : Int), (12 : Int)) else infV pl n m (tr m n l)) = A := ⟨_, rfl⟩
  rw [hA] at O I O'
  refine Ev.step (f := fun k => (norm_One.f k m n l).bind fun b1 => (norm_Inf.f k n m (tr m n l)).bind fun b2 => (norm_One.f k m n l').bind fun b3 => if b1.2 = b2.2 then (if b1.1 = b2.1 then (if b1.2 = b3.2 then some (b1.1 == b3.1) else some false) else some false) else some false) (fun k => ?_) (Ev.bind O (Ev.bind I (Ev.bind O' ?_)))
  · simp only [vernierlaw23_NormTurns.j1]
    rw [if_neg (by decide)]
  · simp only [if_true, beq_self_eq_true]; exact Ev.now _
theorem turns_l {pl : Int → Int → Int} (hp : PL pl) {m n : Nat} {l : List Int} (hl : U64s l) (h : okMat m n l) (sg_ : List Bool) (d : Nat) : ∀ (i : Nat) (l' : List Int), i + d = l.length → sgnEq l l' →
    Ev (fun k => vernierlaw23_NormTurns.l0 k sg_ i m n l n m (tr m n l) m n l') true := by
  have hlen : l.length ≤ 4096 := by
    have := h.2.2.2.2; have := prod_le h.1 h.2.1 h.2.2.1 h.2.2.2.1; omega
  induction d with
  | zero =>
    intro i l' hi hs
    refine Ev.step (fun k => ?_) (turns_end hp hl h hs sg_ i)
    simp only [vernierlaw23_NormTurns.l0]
    rw [if_neg (by rw [hs.1]; omega)]
  | succ d ih =>
    intro i l' hi hs
    by_cases g : i < sg_.length
    · have hi' : i < l'.length := by rw [hs.1]; omega
      refine Ev.step (f := fun k => vernierlaw23_NormTurns.j1 k sg_ i true m n l n m (tr m n l) m n l') (fun k => ?_) ?_
      · simp only [vernierlaw23_NormTurns.l0]
        rw [if_pos (by omega), decide_eq_true (show (i : Int) < sg_.length by omega)]
      · cases hb : rdOf false sg_ (i : Int) with
        | true =>
          refine Ev.step (fun k => ?_) (ih (i + 1) _ (by omega) (sgn_step hs hi'))
          simp only [vernierlaw23_NormTurns.j1]
          rw [if_pos trivial, if_pos (by omega), if_pos (by omega), hb, if_pos rfl, if_pos (by omega), wsucc i (by omega), Int.toNat_natCast]
        | false =>
          refine Ev.step (fun k => ?_) (ih (i + 1) l' (by omega) hs)
          simp only [vernierlaw23_NormTurns.j1]
          rw [if_pos trivial, if_pos (by omega), if_pos (by omega), hb, if_neg (by decide), wsucc i (by omega)]
    · refine Ev.step (fun k => ?_) (turns_end hp hl h hs sg_ i)
      simp only [vernierlaw23_NormTurns.l0]
      rw [if_pos (by rw [hs.1]; omega), decide_eq_false (by omega)]
theorem turns_ev (m n : Int) {l : List Int} (hl : U64s l) (sg_ : List Bool) : Ev (fun k => vernierlaw23_NormTurns.f k m n l sg_) true := by
  obtain ⟨pl, hp⟩ := pl_ex
  unfold vernierlaw23_NormTurns.f
  refine Ev.bind alive23 ?_
  simp only [if_true]
  by_cases h : okMat m n l
  · have h' := h
    obtain ⟨h1, h2, h3, h4, h5⟩ := h
    obtain ⟨M, rfl⟩ := Int.eq_ofNat_of_zero_le (show 0 ≤ m by omega)
    obtain ⟨N, rfl⟩ := Int.eq_ofNat_of_zero_le (show 0 ≤ n by omega)
    have hlen : l.length ≤ 4096 := by
      have := prod_le h1 h2 h3 h4; omega
    refine Ev.bind (transpose_ok h') ?_
    simp only [if_true, Option.bind_some, List.length_nil, Nat.zero_add, if_pos (show l.length < 17592186044416 by omega), List.nil_append]
    exact turns_l hp hl h' sg_ l.length 0 l (by omega) ⟨rfl, hl, fun _ => rfl⟩
  · refine Ev.bind (transpose_no h) ?_
    simp only [if_neg (show ¬ (11 : Int) = 0 by decide)]
    exact Ev.now _
theorem NormTurns_walk (W : World) (m n : Int) (A : Option Addr) (c : Nat) (l : List Int) (_wm : (Lit.int .i64 m).wf = true) (_wn : (Lit.int .i64 n).wf = true) (hr : Kd.C (Kd.int .u64) W A l.length l) (hc : l.length ≤ c) (_hm : l.length ≤ maxLen) (hw : ∀ x ∈ l, (Lit.int .u64 x).wf = true) (B : Option Addr) (c1 : Nat) (sg_ : List Bool) (hr1 : Kd.C Kd.bool W B sg_.length sg_) (hc1 : sg_.length ≤ c1) :
    Calls Try.prog 3 #[.agg #[.int .i64 m, .int .i64 n, .slice A l.length c], .slice B sg_.length c1] W fun e w' => e = .returned (.bool true) ∧ Below W.heap.size W w' := by
  obtain ⟨k, e⟩ := (turns_ev m n (u64s_of hw) sg_).rounds
  exact (vernierlaw23_NormTurns.calls k m n A c l B c1 sg_ true W hr hc hr1 hc1 e).mono fun e w' h => h
end Go.Proofs.Ythegoeabimehhaa.Pure
