import Derived.Test.YtklkebbdjppnkaaPFdivSelfx5
import Derived.Laws.BitsLemmas
import Derived.Laws.BitsAllLaws
namespace Go.Proofs.Ytklkebbdjppnkaa.Pure
open Go.RowKit Go.Proofs.Ytklkebbdjppnkaa.PFdivSelf Go.Proofs.YtklkebbdjppnkaaW.PrintWords Go.Proofs.YtklkebbdjppnkaaW.PrintLast Go.Proofs.YtklkebbdjppnkaaW.PrintMore
-- Whole numbers that fit; places in a matrix; lists made of a function.
theorem w64 {x : Int} (h0 : -9223372036854775808 ≤ x) (h1 : x < 9223372036854775808) : wrap64 x = x := by unfold wrap64; omega
theorem wN (n : Nat) (h : n < 9223372036854775808) : wrap64 (n : Int) = (n : Int) := w64 (by omega) (by omega)
theorem wmul (a b : Nat) (h : a * b < 9223372036854775808) : wrap64 ((a : Int) * (b : Int)) = ((a * b : Nat) : Int) := by rw [← Int.natCast_mul]; exact wN _ h
theorem wadd (a b : Nat) (h : a + b < 9223372036854775808) : wrap64 ((a : Int) + (b : Int)) = ((a + b : Nat) : Int) := by rw [← Int.natCast_add]; exact wN _ h
theorem wsucc (a : Nat) (h : a + 1 < 9223372036854775808) : wrap64 ((a : Int) + 1) = ((a + 1 : Nat) : Int) := wadd a 1 h
theorem place_lt {i j r c : Nat} (hi : i < r) (hj : j < c) : i * c + j < r * c := by
  have : (i + 1) * c ≤ r * c := Nat.mul_le_mul_right c hi
  rw [Nat.add_mul, Nat.one_mul] at this; omega
theorem place_div {i j c : Nat} (hj : j < c) : (i * c + j) / c = i := by
  rw [Nat.mul_comm, Nat.mul_add_div (by omega), Nat.div_eq_of_lt hj, Nat.add_zero]
theorem place_mod {i j c : Nat} (hj : j < c) : (i * c + j) % c = j := by
  rw [Nat.mul_comm, Nat.mul_add_mod, Nat.mod_eq_of_lt hj]
theorem place_of (k c : Nat) : k / c * c + k % c = k := by rw [Nat.mul_comm]; exact Nat.div_add_mod k c
theorem div_lt_of {k r c : Nat} (h : k < r * c) : k / c < r := Nat.div_lt_of_lt_mul (by rw [Nat.mul_comm]; exact h)
theorem mod_lt_of {k r c : Nat} (h : k < r * c) : k % c < c := Nat.mod_lt _ (by rcases Nat.eq_zero_or_pos c with rfl | h' <;> omega)
def mk (n : Nat) (f : Nat → Int) : List Int := (List.range n).map f
theorem mk_len (n : Nat) (f : Nat → Int) : (mk n f).length = n := by simp [mk]
theorem mk_get (n : Nat) (f : Nat → Int) (k : Nat) (h : k < n) : (mk n f).getD k 0 = f k := by
  simp [mk, List.getD_eq_getElem?_getD, h]
theorem rd_mk (n : Nat) (f : Nat → Int) (k : Nat) (h : k < n) : rd (mk n f) (k : Int) = f k := mk_get n f k h
theorem rd_nat (l : List Int) (k : Nat) : rd l (k : Int) = l.getD k 0 := rfl
theorem mk_congr {n : Nat} {f g : Nat → Int} (h : ∀ k, k < n → f k = g k) : mk n f = mk n g := List.map_congr_left (fun k hk => h k (List.mem_range.1 hk))
theorem mk_set (n : Nat) (f : Nat → Int) (p : Nat) (v : Int) : (mk n f).set p v = mk n (fun k => if k = p then v else f k) := by
  apply List.ext_getElem
  · simp [mk]
  · intro i h1 h2
    simp only [mk, List.length_set, List.length_map, List.length_range] at h1
    rw [List.getElem_set]
    simp only [mk, List.getElem_map, List.getElem_range]
    by_cases e : p = i
    · subst e; simp
    · rw [if_neg e, if_neg (fun h => e h.symm)]
theorem mk_const (n : Nat) (v : Int) : List.replicate n v = mk n (fun _ => v) := by
  apply List.ext_getElem
  · simp [mk]
  · intro i h1 h2; simp [mk]
theorem mk_self (l : List Int) : mk l.length (fun k => l.getD k 0) = l := by
  apply List.ext_getElem
  · simp [mk]
  · intro i h1 h2
    simp only [mk, List.getElem_map, List.getElem_range]
    rw [List.getD_eq_getElem?_getD, List.getElem?_eq_getElem h2]; rfl
theorem mk_eq {n : Nat} {f : Nat → Int} {l : List Int} (hl : l.length = n) (h : ∀ k, k < n → l.getD k 0 = f k) : l = mk n f := by
  subst hl
  exact (mk_self l).symm.trans (mk_congr h)
theorem Ev.no {α : Type} {g : Nat → Option α} {r : α} (h : ∀ k, g (k + 1) = some r) : Ev g r := Ev.step (f := fun _ => some r) h (Ev.now r)
-- Words of 64 bits: masks and joins.
theorem wraps_u64 (n : Int) (h₀ : 0 ≤ n) (h₁ : n < 2 ^ 64) : IntKind.u64.wrap n = n := by rw [IntKind.wrap_u64]; omega
theorem mask64 (i : Nat) (hi : i ≤ 64) (x : Int) (h0 : 0 ≤ x) (h1 : x < 18446744073709551616) : Go.bits .and .u64 x (2 ^ i - 1) = x % 2 ^ i :=
  bits_mask .u64 64 (by decide) wraps_u64 i hi x h0 (by omega)
theorem and2047 {x : Int} (h0 : 0 ≤ x) (h1 : x < 18446744073709551616) : Go.bits .and .u64 x 2047 = x % 2048 := by have := mask64 11 (by omega) x h0 h1; simpa using this
theorem and52 {x : Int} (h0 : 0 ≤ x) (h1 : x < 18446744073709551616) : Go.bits .and .u64 x 4503599627370495 = x % 4503599627370496 := by have := mask64 52 (by omega) x h0 h1; simpa using this
theorem and1_u64 {x : Int} (h0 : 0 ≤ x) (h1 : x < 18446744073709551616) : Go.bits .and .u64 x 1 = x % 2 := by have := mask64 1 (by omega) x h0 h1; simpa using this
theorem and63 {x : Int} (h0 : 0 ≤ x) (h1 : x < 18446744073709551616) : Go.bits .and .u64 x 9223372036854775808 = x / 9223372036854775808 * 9223372036854775808 := by
  obtain ⟨a, rfl⟩ := Int.eq_ofNat_of_zero_le h0
  have h := u64_and_nat a 9223372036854775808 (by omega) (by omega)
  rw [show ((9223372036854775808 : Nat) : Int) = 9223372036854775808 from rfl] at h
  rw [h, nat_hi64_63]; omega
theorem or64_join (i : Nat) (y x : Int) (hy : 0 ≤ y) (hy' : y < 2 ^ i) (hx : 0 ≤ x) (hx' : x % 2 ^ i = 0) (h1 : y < 18446744073709551616) (h2 : x < 18446744073709551616) : Go.bits .or .u64 y x = y + x ∧ Go.bits .or .u64 x y = x + y := by
  have h := bits_join .u64 64 (by decide) wraps_u64 i x y hx hx' (by omega) hy hy' (by omega)
  refine ⟨?_, h⟩
  obtain ⟨a, rfl⟩ := Int.eq_ofNat_of_zero_le hy
  obtain ⟨b, rfl⟩ := Int.eq_ofNat_of_zero_le hx
  rw [u64_or_nat b a (by omega) (by omega)] at h
  rw [u64_or_nat a b (by omega) (by omega), Nat.or_comm, h]; omega
theorem or52 {y : Int} (h0 : 0 ≤ y) (h1 : y < 4503599627370496) : Go.bits .or .u64 y 4503599627370496 = y + 4503599627370496 :=
  (or64_join 52 y 4503599627370496 h0 (by omega) (by omega) (by decide) (by omega) (by omega)).1
def bl (a : Nat) : Nat := if h : a = 0 then 0 else bl (a / 2) + 1
termination_by a
decreasing_by omega
theorem bl_zero : bl 0 = 0 := by rw [bl]; rfl
theorem bl_pos {a : Nat} (h : a ≠ 0) : bl a = bl (a / 2) + 1 := by rw [bl]; simp [h]
theorem lt_bl : ∀ a : Nat, a < 2 ^ bl a := by
  intro a
  induction a using Nat.strongRecOn with
  | _ a ih =>
    by_cases h : a = 0
    · subst h; rw [bl_zero]; decide
    · rw [bl_pos h, Nat.pow_succ]
      have := ih (a / 2) (by omega)
      omega
theorem le_bl {a : Nat} (h : a ≠ 0) : 2 ^ (bl a - 1) ≤ a := by
  induction a using Nat.strongRecOn with
  | _ a ih =>
    rw [bl_pos h, Nat.add_sub_cancel]
    by_cases g : a / 2 = 0
    · rw [g, bl_zero]; simp; omega
    · have h1 := ih (a / 2) (by omega) g
      have h2 : bl (a / 2) = bl (a / 2) - 1 + 1 := by rw [bl_pos g]; omega
      rw [h2, Nat.pow_succ]; omega
theorem bl_le {a n : Nat} (h : a < 2 ^ n) : bl a ≤ n := by
  by_cases g : a = 0
  · subst g; rw [bl_zero]; omega
  · have := Nat.lt_of_le_of_lt (le_bl g) h
    have := (Nat.pow_lt_pow_iff_right (a := 2) (by omega)).1 this
    omega
theorem bl_gt {a n : Nat} (h : 2 ^ n ≤ a) : n < bl a := (Nat.pow_lt_pow_iff_right (a := 2) (by omega)).1 (Nat.lt_of_le_of_lt h (lt_bl a))
theorem bl_eq {a n : Nat} (h : 2 ^ n ≤ a) (h' : a < 2 ^ (n + 1)) : bl a = n + 1 := by have := bl_gt h; have := bl_le h'; omega
-- A binary64 number's parts, and what the printed functions of them come to.
def E (a : Int) : Int := a / 4503599627370496 % 2048
def F (a : Int) : Int := a % 4503599627370496
def cls (a : Int) : Int := if E a = 2047 then (if F a = 0 then 2 else 3) else if E a = 0 ∧ F a = 0 then 0 else 1
def sg (a : Int) : Int := if E a = 0 then F a else F a + 4503599627370496
def ex (a : Int) : Int := if E a = 0 then -1074 else E a - 1075
def neg (a : Int) : Bool := decide (a ≥ 9223372036854775808)
theorem E_bd (a : Int) : 0 ≤ E a ∧ E a < 2048 := by unfold E; omega
theorem F_bd (a : Int) : 0 ≤ F a ∧ F a < 4503599627370496 := by unfold F; omega
theorem u64_bd {a : Int} (h : (Lit.int .u64 a).wf = true) : 0 ≤ a ∧ a < 18446744073709551616 := by
  have := (by simpa [Lit.wf, IntKind.min, IntKind.max, IntKind.bits, IntKind.signed] using h : 0 ≤ a ∧ a ≤ 18446744073709551615); omega
theorem i64_bd {a : Int} (h : (Lit.int .i64 a).wf = true) : -9223372036854775808 ≤ a ∧ a < 9223372036854775808 := by
  have := (by simpa [Lit.wf, IntKind.min, IntKind.max, IntKind.bits, IntKind.signed] using h : -9223372036854775808 ≤ a ∧ a ≤ 9223372036854775807); omega
theorem expo {a : Int} (h0 : 0 ≤ a) (h1 : a < 18446744073709551616) : Go.bits .and .u64 (a / 4503599627370496) 2047 = E a := and2047 (by omega) (by omega)
theorem refE {a : Int} (h0 : 0 ≤ a) (h1 : a < 18446744073709551616) : Int.tmod (IntKind.u64.wrap (Int.tdiv a 4503599627370496)) 2048 = E a := by
  rw [Int.tdiv_eq_ediv_of_nonneg h0, wraps_u64 _ (by omega) (by omega), Int.tmod_eq_emod_of_nonneg (by omega)]; rfl
theorem refF {a : Int} (h0 : 0 ≤ a) : Int.tmod a 4503599627370496 = F a := by rw [Int.tmod_eq_emod_of_nonneg h0]; rfl
theorem class_ev {a : Int} (h0 : 0 ≤ a) (h1 : a < 18446744073709551616) : Ev (fun k => parts_Class.f k a) (cls a) := by
  have hf := F_bd a
  have key : ∀ x, Ev (fun k => parts_Class.j0 k (E a) (F a) x) (if x = true then 3 else if E a = 2047 then 2 else if E a = 0 ∧ F a = 0 then 0 else 1) := fun x => by
    refine Ev.no (fun k => ?_)
    simp only [parts_Class.j0]
    by_cases hx : x = true
    · rw [if_pos hx, if_pos hx]
    rw [if_neg hx, if_neg hx]
    by_cases h2 : E a = 2047
    · rw [if_pos h2, if_pos h2]
    rw [if_neg h2, if_neg h2]
    by_cases h3 : E a = 0
    · rw [if_pos h3]
      by_cases h4 : F a = 0
      · rw [if_pos h4, if_pos ⟨h3, h4⟩]
      · rw [if_neg h4, if_neg (fun h => h4 h.2)]
    · rw [if_neg h3, if_neg (fun h => h3 h.1)]
  refine Ev.congr (f := fun k => parts_Class.j0 k (E a) (F a) (decide (E a = 2047 ∧ F a ≠ 0))) (fun k => ?_) ?_
  · unfold parts_Class.f
    rw [expo h0 h1, and52 h0 h1]
    by_cases h2 : E a = 2047
    · rw [if_pos h2]; congr 1
      rw [Bool.eq_iff_iff]; simp [h2]; rfl
    · rw [if_neg h2]; simp [h2]; rfl
  · have := key (decide (E a = 2047 ∧ F a ≠ 0))
    unfold cls
    by_cases h2 : E a = 2047
    · by_cases h3 : F a = 0
      · simp [h2, h3] at this ⊢; exact this
      · simp [h2, h3] at this ⊢; exact this
    · simp [h2] at this ⊢; exact this
theorem rclass_ev {a : Int} (h0 : 0 ≤ a) (h1 : a < 18446744073709551616) : Ev (fun k => vernierref06_Class.f k a) (cls a) := by
  have hf := F_bd a
  have key : ∀ x, Ev (fun k => vernierref06_Class.j0 k (E a) (F a) x) (if x = true then 3 else if E a = 2047 then 2 else if E a = 0 ∧ F a = 0 then 0 else 1) := fun x => by
    refine Ev.no (fun k => ?_)
    simp only [vernierref06_Class.j0]
    by_cases hx : x = true
    · rw [if_pos hx, if_pos hx]
    rw [if_neg hx, if_neg hx]
    by_cases h2 : E a = 2047
    · rw [if_pos h2, if_pos h2]
    rw [if_neg h2, if_neg h2]
    by_cases h3 : E a = 0
    · rw [if_pos h3]
      by_cases h4 : F a = 0
      · rw [if_pos h4, if_pos ⟨h3, h4⟩]
      · rw [if_neg h4, if_neg (fun h => h4 h.2)]
    · rw [if_neg h3, if_neg (fun h => h3 h.1)]
  refine Ev.congr (f := fun k => vernierref06_Class.j0 k (E a) (F a) (decide (E a = 2047 ∧ F a > 0))) (fun k => ?_) ?_
  · unfold vernierref06_Class.f
    rw [refE h0 h1, refF h0]
    by_cases h2 : E a = 2047
    · rw [if_pos h2]; congr 1
      rw [Bool.eq_iff_iff]; simp [h2]
    · rw [if_neg h2]; simp [h2]
  · have := key (decide (E a = 2047 ∧ F a > 0))
    unfold cls
    by_cases h2 : E a = 2047
    · by_cases h3 : F a = 0
      · simp [h2, h3] at this ⊢; exact this
      · have h4 : 0 < F a := by omega
        simp [h2, h3, h4] at this ⊢; exact this
    · simp [h2] at this ⊢; exact this
theorem negb {a : Int} (h0 : 0 ≤ a) (h1 : a < 18446744073709551616) : (Go.bits .and .u64 a 9223372036854775808 != 0) = neg a := by
  rw [and63 h0 h1]; unfold neg
  rw [Bool.eq_iff_iff, bne_iff_ne, decide_eq_true_iff]; omega
theorem split_eq {a : Int} (h0 : 0 ≤ a) (h1 : a < 18446744073709551616) : parts_Split.f a = some (if E a = 2047 then (false, 0, 0, 23) else (neg a, sg a, ex a, 0)) := by
  have he := E_bd a
  have hf := F_bd a
  unfold parts_Split.f
  rw [expo h0 h1, w64 (by omega) (by omega), negb h0 h1, and52 h0 h1]
  by_cases h2 : E a = 2047
  · rw [if_pos h2, if_pos h2]
  · rw [if_neg h2, if_neg h2]
    unfold sg ex
    by_cases h3 : E a = 0
    · rw [if_pos h3, if_pos h3, if_pos h3]; rfl
    · rw [if_neg h3, if_neg h3, if_neg h3, or52 (by omega) (by omega), w64 (by omega) (by omega)]; rfl
-- A natural of two words: how many bits, its shifts, its cut.
theorem bitLenAux_bl : ∀ (f a : Nat), a < 2 ^ f → Lib.bitLenAux f a = bl a := by
  intro f
  induction f with
  | zero => intro a h; obtain rfl : a = 0 := by simpa using h
            rw [bl_zero]; rfl
  | succ f ih =>
    intro a h
    by_cases g : a = 0
    · subst g; rw [bl_zero]; rfl
    · rw [Nat.pow_succ] at h
      rw [bl_pos g, Lib.bitLenAux, if_neg g, ih (a / 2) (by omega), Nat.add_comm]
theorem bitLen_bl {a : Nat} (h : a < 18446744073709551616) : Lib.bitLen a = bl a := bitLenAux_bl 64 a (by simpa using h)
theorem len64 {a : Nat} (h : a < 18446744073709551616) : bits_Len64.f (a : Int) = some (bl a : Int) := by
  unfold bits_Len64.f
  rw [if_pos (by omega), Int.toNat_natCast, bitLen_bl h]
theorem bl64 {a : Nat} (h : a < 18446744073709551616) : bl a ≤ 64 := bl_le (by simpa using h)
theorem bl_wide {h l : Nat} (hl : l < 18446744073709551616) (g : h ≠ 0) : bl (h * 18446744073709551616 + l) = 64 + bl h := by
  have h1 := lt_bl h
  have h2 := le_bl g
  have h3 : bl h = bl h - 1 + 1 := by rw [bl_pos g]; omega
  generalize bl h - 1 = b at *
  rw [h3] at h1 ⊢
  have e : (2 : Nat) ^ (64 + b) = 18446744073709551616 * 2 ^ b := by rw [Nat.pow_add]
  have e' : (2 : Nat) ^ (64 + b + 1) = 18446744073709551616 * 2 ^ (b + 1) := by rw [Nat.add_assoc, Nat.pow_add]
  rw [bl_eq (n := 64 + b)]
  · omega
  · rw [e]; omega
  · rw [e']; omega
theorem wlen {h l : Nat} (hh : h < 18446744073709551616) (hl : l < 18446744073709551616) : parts_wide_len.f (h : Int) (l : Int) = some (bl (h * 18446744073709551616 + l) : Int) := by
  unfold parts_wide_len.f
  by_cases g : h = 0
  · subst g
    rw [if_pos (by rfl), len64 hl, Nat.zero_mul, Nat.zero_add]; rfl
  · have := bl64 hh
    rw [if_neg (by omega), len64 hh, bl_wide hl g]
    simp only [Option.bind_some]
    rw [w64 (by omega) (by omega)]; congr 1
theorem p64 {n : Nat} (h : n ≤ 64) : (2 : Nat) ^ n * 2 ^ (64 - n) = 18446744073709551616 := by rw [← Nat.pow_add, show n + (64 - n) = 64 by omega]
theorem shr_nat {h n : Nat} (hn : n ≤ 64) : shr .u64 (h : Int) (n : Int) = ((h / 2 ^ n : Nat) : Int) := by
  unfold shr
  rw [Int.toNat_natCast, show min n IntKind.u64.bits = n from Nat.min_eq_left hn, Int.natCast_ediv, Int.natCast_pow]; rfl
theorem shl_nat {h n : Nat} (hn : n ≤ 64) : shl .u64 (h : Int) (n : Int) = ((h * 2 ^ n % 18446744073709551616 : Nat) : Int) := by
  unfold shl
  rw [Int.toNat_natCast, show min n IntKind.u64.bits = n from Nat.min_eq_left hn, IntKind.wrap_u64, Int.natCast_emod, Int.natCast_mul, Int.natCast_pow]; rfl
theorem wshr {h l n : Nat} (hh : h < 18446744073709551616) (hl : l < 18446744073709551616) :
    parts_wide_shr.f (h : Int) (l : Int) (n : Int) = some ((((h * 18446744073709551616 + l) / 2 ^ n / 18446744073709551616 : Nat) : Int), (((h * 18446744073709551616 + l) / 2 ^ n % 18446744073709551616 : Nat) : Int)) := by
  unfold parts_wide_shr.f
  by_cases h1 : 128 ≤ n
  · rw [if_pos (by omega)]
    have : (h * 18446744073709551616 + l) / 2 ^ n = 0 := Nat.div_eq_of_lt (Nat.lt_of_lt_of_le (show _ < 2 ^ 128 by omega) (Nat.pow_le_pow_right (by omega) h1))
    rw [this]; rfl
  rw [if_neg (by omega)]
  by_cases h2 : 64 ≤ n
  · rw [if_pos (by omega), w64 (by omega) (by omega), if_pos (by omega), show (n : Int) - 64 = ((n - 64 : Nat) : Int) by omega, shr_nat (by omega)]
    have e : (h * 18446744073709551616 + l) / 2 ^ n = h / 2 ^ (n - 64) := by
      rw [show (2 : Nat) ^ n = 18446744073709551616 * 2 ^ (n - 64) by rw [show (18446744073709551616 : Nat) = 2 ^ 64 by decide, ← Nat.pow_add]; congr 1; omega, ← Nat.div_div_eq_div_mul]
      congr 1; omega
    have e2 : h / 2 ^ (n - 64) < 18446744073709551616 := Nat.lt_of_le_of_lt (Nat.div_le_self _ _) hh
    rw [e, Nat.div_eq_of_lt e2, Nat.mod_eq_of_lt e2]; rfl
  rw [if_neg (by omega)]
  by_cases h3 : n = 0
  · subst h3
    rw [if_pos (by rfl), Nat.pow_zero, Nat.div_one, show (h * 18446744073709551616 + l) / 18446744073709551616 = h by omega, show (h * 18446744073709551616 + l) % 18446744073709551616 = l by omega]
  rw [if_neg (by omega), if_pos (by omega), w64 (by omega) (by omega), if_pos (by omega), show (64 : Int) - (n : Int) = ((64 - n : Nat) : Int) by omega, shr_nat (by omega), shr_nat (by omega), shl_nat (by omega)]
  have hp := p64 (n := n) (by omega)
  have hA : 0 < 2 ^ n := Nat.pow_pos (by omega)
  have hM : 0 < 2 ^ (64 - n) := Nat.pow_pos (by omega)
  have hk : (2 : Int) ^ (64 - n) = ((2 ^ (64 - n) : Nat) : Int) := by rw [Int.natCast_pow]; rfl
  have hj := or64_join (64 - n) ((l / 2 ^ n : Nat) : Int) ((h * 2 ^ (64 - n) % 18446744073709551616 : Nat) : Int)
  rw [hk] at hj
  generalize 2 ^ (64 - n) = M at *
  generalize 2 ^ n = A at *
  have e1 : (h * 18446744073709551616 + l) / A = h * M + l / A := by
    rw [← hp, show h * (A * M) + l = l + A * (h * M) by rw [Nat.mul_left_comm, Nat.add_comm], Nat.add_mul_div_left _ _ hA, Nat.add_comm]
  have e2 : l / A < M := Nat.div_lt_of_lt_mul (by rw [hp]; exact hl)
  have e3 : h * M % (A * M) = h % A * M := Nat.mul_mod_mul_right _ _ _
  have e4 : (h * M + l / A) / (A * M) = h / A := by
    rw [Nat.mul_comm A M, ← Nat.div_div_eq_div_mul, Nat.add_comm, Nat.add_mul_div_right _ _ hM, Nat.div_eq_of_lt e2, Nat.zero_add]
  have e5 : (h * M + l / A) % (A * M) = h % A * M + l / A := by
    have d1 := Nat.div_add_mod (h * M + l / A) (A * M)
    rw [e4] at d1
    have d2 := Nat.div_add_mod h A
    have d3 : A * M * (h / A) + h % A * M = h * M := by
      conv => rhs; rw [← d2]
      rw [Nat.add_mul, Nat.mul_right_comm]
    omega
  have hlt : h % A * M < A * M := Nat.mul_lt_mul_of_pos_right (Nat.mod_lt _ hA) hM
  rw [e1]
  rw [hp] at e3 e4 e5 hlt
  rw [e4, e5]
  rw [e3] at hj ⊢
  have hd : l / A ≤ l := Nat.div_le_self _ _
  generalize l / A = y at *
  have z0 : 0 ≤ ((h % A * M : Nat) : Int) := Int.natCast_nonneg _
  have z1 : ((h % A * M : Nat) : Int) % (M : Int) = 0 := by rw [← Int.natCast_emod, Nat.mul_mod_left]; rfl
  generalize h % A * M = x at *
  have := (hj (by omega) (by omega) z0 z1 (by omega) (by omega)).1
  rw [this, ← Int.natCast_add, Nat.add_comm]
theorem pow_dvd_mod {W i m : Nat} (h : i < m) (hb : W / 2 ^ i % 2 = 1) : W % 2 ^ m ≠ 0 := by
  intro e
  obtain ⟨c, rfl⟩ := Nat.dvd_of_mod_eq_zero e
  rw [show (2 : Nat) ^ m = 2 ^ i * (2 * 2 ^ (m - i - 1)) by rw [← Nat.pow_succ', ← Nat.pow_add]; congr 1; omega, Nat.mul_assoc, Nat.mul_div_cancel_left _ (Nat.pow_pos (by omega)), Nat.mul_assoc] at hb
  omega
theorem wshrW {h l n W : Nat} (hW : h * 18446744073709551616 + l = W) (hh : h < 18446744073709551616) (hl : l < 18446744073709551616) :
    parts_wide_shr.f (h : Int) (l : Int) (n : Int) = some (((W / 2 ^ n / 18446744073709551616 : Nat) : Int), ((W / 2 ^ n % 18446744073709551616 : Nat) : Int)) := by
  rw [wshr hh hl, hW]
theorem wcut_l {h l W : Nat} (hW : h * 18446744073709551616 + l = W) (hh : h < 18446744073709551616) (hl : l < 18446744073709551616) (q : Int) (half : Bool) (m : Nat) (hm : m ≤ 128) :
    ∀ j i : Nat, j + i = m → W % 2 ^ i = 0 → Ev (fun k => parts_wide_cut.l0 k q half m i h l) (q, half, decide (W % 2 ^ m ≠ 0)) := by
  intro j
  induction j with
  | zero =>
    intro i hi hz
    obtain rfl : i = m := by omega
    refine Ev.no (fun k => ?_)
    simp only [parts_wide_cut.l0]
    rw [if_neg (by omega), hz]; rfl
  | succ j ih =>
    intro i hi hz
    have a1 : Go.bits .and .u64 ((W / 2 ^ i % 18446744073709551616 : Nat) : Int) 1 = ((W / 2 ^ i % 2 : Nat) : Int) := by
      generalize W / 2 ^ i = z at *
      rw [and1_u64 (by omega) (by omega)]; omega
    by_cases hb : W / 2 ^ i % 2 = 1
    · refine Ev.no (fun k => ?_)
      simp only [parts_wide_cut.l0]
      rw [if_pos (by omega), wshrW hW hh hl]
      simp only [Option.bind_some]
      rw [a1, hb, if_pos (by rfl), decide_eq_true (pow_dvd_mod (by omega) hb)]
    · refine Ev.step (f := fun k => parts_wide_cut.l0 k q half m ((i + 1 : Nat) : Int) h l) (fun k => ?_) (ih (i + 1) (by omega) ?_)
      · simp only [parts_wide_cut.l0]
        rw [if_pos (by omega), wshrW hW hh hl]
        simp only [Option.bind_some]
        rw [a1, if_neg (by omega), wsucc _ (by omega)]
      · rw [Nat.pow_succ, Nat.mod_mul, hz, show W / 2 ^ i % 2 = 0 by omega, Nat.mul_zero]
theorem cut_pos {h l d W : Nat} (hW : h * 18446744073709551616 + l = W) (hh : h < 18446744073709551616) (hl : l < 18446744073709551616) (hd : 0 < d) (hd' : d < 1000000) :
    Ev (fun k => parts_wide_cut.f k h l d) (((W / 2 ^ d % 18446744073709551616 : Nat) : Int), decide (W / 2 ^ (d - 1) % 2 = 1), decide (W % 2 ^ (d - 1) ≠ 0)) := by
  have a1 : Go.bits .and .u64 ((W / 2 ^ (d - 1) % 18446744073709551616 : Nat) : Int) 1 = ((W / 2 ^ (d - 1) % 2 : Nat) : Int) := by
    generalize W / 2 ^ (d - 1) = z
    rw [and1_u64 (by omega) (by omega)]; omega
  have a2 : (((W / 2 ^ (d - 1) % 2 : Nat) : Int) == 1) = decide (W / 2 ^ (d - 1) % 2 = 1) := by
    generalize W / 2 ^ (d - 1) = z
    rw [Bool.eq_iff_iff, beq_iff_eq, decide_eq_true_iff]; omega
  have hw : wrap64 ((d : Int) - 1) = ((d - 1 : Nat) : Int) := by rw [w64 (by omega) (by omega)]; omega
  have hmin : mn ((d - 1 : Nat) : Int) 128 = ((min (d - 1) 128 : Nat) : Int) := by unfold mn; first | omega | (split <;> omega)
  have he : (W % 2 ^ (min (d - 1) 128) ≠ 0) = (W % 2 ^ (d - 1) ≠ 0) := by
    by_cases g : d - 1 ≤ 128
    · rw [Nat.min_eq_left g]
    · rw [Nat.min_eq_right (by omega), Nat.mod_eq_of_lt (show _ < 2 ^ 128 by omega), Nat.mod_eq_of_lt (Nat.lt_of_lt_of_le (show _ < 2 ^ 128 by omega) (Nat.pow_le_pow_right (by omega) (by omega)))]
  refine Ev.congr (f := fun k => parts_wide_cut.l0 k ((W / 2 ^ d % 18446744073709551616 : Nat) : Int) (decide (W / 2 ^ (d - 1) % 2 = 1)) ((min (d - 1) 128 : Nat) : Int) ((0 : Nat) : Int) h l) (fun k => ?_) ?_
  · unfold parts_wide_cut.f
    rw [if_neg (by omega), wshrW hW hh hl, hw, wshrW hW hh hl]
    simp only [Option.bind_some]
    rw [a1, a2, hmin]; rfl
  · have := wcut_l hW hh hl ((W / 2 ^ d % 18446744073709551616 : Nat) : Int) (decide (W / 2 ^ (d - 1) % 2 = 1)) (min (d - 1) 128) (by omega) (min (d - 1) 128) 0 (by omega) (by rw [Nat.pow_zero, Nat.mod_one])
    simp only [he] at this
    exact this
theorem cut_neg {h l d W : Nat} (e : h * 18446744073709551616 + l = W) (k : Nat) (hl : l < 18446744073709551616) (hd : d ≤ 64) (hW : W * 2 ^ d < 18446744073709551616) :
    parts_wide_cut.f k h l (-(d : Int)) = some (((W * 2 ^ d : Nat) : Int), false, false) := by
  have hp : 1 ≤ 2 ^ d := Nat.pow_pos (by omega)
  have h0 : h = 0 := by
    have := Nat.le_mul_of_pos_right W hp
    omega
  subst h0
  rw [Nat.zero_mul, Nat.zero_add] at e
  subst e
  unfold parts_wide_cut.f
  rw [if_pos (by omega), w64 (by omega) (by omega), if_pos (by omega), show -(-(d : Int)) = (d : Int) by omega, shl_nat hd, Nat.mod_eq_of_lt hW]
-- parts.Round: what comes of a cut; then all of it.
def upP (neg : Bool) (q : Int) (half rest : Bool) (mode : Int) : Bool :=
  if mode = 1 then half else if mode = 2 then false else if mode = 3 then !neg && (half || rest) else if mode = 4 then neg && (half || rest) else half && (rest || decide (q % 2 = 1))
def farP (neg : Bool) (mode : Int) : Bool := decide (mode < 2) || decide (4 < mode) || (decide (mode = 3) && !neg) || (decide (mode = 4) && neg)
def sgn (neg : Bool) : Int := if neg then 9223372036854775808 else 0
def res (neg : Bool) (mode c fl : Int) : Int × Int :=
  if 9218868437227405312 ≤ c then (sgn neg + (if farP neg mode then 9218868437227405312 else 9218868437227405311), 20) else (sgn neg + c, fl)
def fin (neg : Bool) (C : Int) (half rest tiny : Bool) (mode : Int) : Int × Int :=
  res neg mode (C + (if upP neg C half rest mode then 1 else 0)) (if (half || rest) = true then (if tiny = true then 24 else 16) else 0)
def cutP (W : Nat) (d : Int) : Nat × Bool × Bool :=
  if d ≤ 0 then (W * 2 ^ (-d).toNat, false, false) else (W / 2 ^ d.toNat, decide (W / 2 ^ (d.toNat - 1) % 2 = 1), decide (W % 2 ^ (d.toNat - 1) ≠ 0))
def clampP (x : Int) : Int := mn (mx x (-16384)) 16384
theorem clamp_bd (x : Int) : -16384 ≤ clampP x ∧ clampP x ≤ 16384 := by unfold clampP mn mx; split <;> split <;> omega
def eP (n : Nat) (x : Int) : Int := mx (x + n - 53) (-1074)
def roundP (neg : Bool) (W : Nat) (x0 : Int) (more : Bool) (mode : Int) : Int × Int :=
  if W = 0 then (sgn neg, 0) else
  let x := clampP x0
  let e := eP (bl W) x
  let c := cutP W (e - x)
  fin neg ((c.1 : Int) + (e + 1074) * 4503599627370496) c.2.1 (c.2.2 || (more && (decide (55 ≤ bl W) || decide (x ≤ -1080)))) (decide (x + bl W < -1021)) mode
theorem up_eq (neg : Bool) {q : Int} (h0 : 0 ≤ q) (h1 : q < 18446744073709551616) (half rest : Bool) (mode : Int) : parts_up.f neg q half rest mode = some (upP neg q half rest mode) := by
  have hb : (Go.bits .and .u64 q 1 == 1) = decide (q % 2 = 1) := by rw [and1_u64 h0 h1, Bool.eq_iff_iff, beq_iff_eq, decide_eq_true_iff]
  unfold parts_up.f upP
  rw [hb]
  by_cases h1 : mode = 1
  · rw [if_pos h1, if_pos h1]
  rw [if_neg h1, if_neg h1]
  by_cases h2 : mode = 2
  · rw [if_pos h2, if_pos h2]
  rw [if_neg h2, if_neg h2]
  by_cases h3 : mode = 3
  · rw [if_pos h3, if_pos h3]; cases neg <;> cases half <;> rfl
  rw [if_neg h3, if_neg h3]
  by_cases h4 : mode = 4
  · rw [if_pos h4, if_pos h4]; cases neg <;> cases half <;> rfl
  rw [if_neg h4, if_neg h4]
  cases half <;> cases rest <;> rfl
theorem zero_sgn (b : Bool) : parts_Zero.f b = some (sgn b) := by cases b <;> rfl
theorem inf_eq (b : Bool) : parts_Inf.f b = some (sgn b + 9218868437227405312) := by cases b <;> decide +kernel
theorem great_eq (b : Bool) : parts_greatest.f b = some (sgn b + 9218868437227405311) := by cases b <;> decide +kernel
theorem over_j (neg x : Bool) : Ev (fun k => parts_over.j0 k neg x) (sgn neg + (if x then 9218868437227405312 else 9218868437227405311), 20) := by
  refine Ev.no (fun k => ?_)
  simp only [parts_over.j0]
  cases x
  · rw [if_neg (by decide), great_eq]; rfl
  · rw [if_pos rfl, inf_eq]; rfl
theorem over_ev (neg : Bool) (mode : Int) : Ev (fun k => parts_over.f k neg mode) (sgn neg + (if farP neg mode then 9218868437227405312 else 9218868437227405311), 20) := by
  refine Ev.congr (f := fun k => parts_over.j0 k neg (farP neg mode)) (fun k => ?_) (over_j neg _)
  unfold parts_over.f farP
  by_cases h1 : mode < 2
  · rw [if_pos h1]; simp [h1]
  rw [if_neg h1]
  by_cases h2 : mode > 4
  · rw [if_pos h2]; simp [show 4 < mode from h2]
  rw [if_neg h2]
  by_cases h3 : mode = 3
  · subst h3; cases neg <;> rfl
  rw [if_neg h3]
  by_cases h4 : mode = 4
  · subst h4; cases neg <;> rfl
  rw [if_neg h4]; simp [h1, h3, h4, show ¬ 4 < mode from h2]
theorem put_eq (neg : Bool) {q e : Int} (h0 : 0 ≤ q) (h1 : q < 9007199254740992) (h2 : -1074 ≤ e) (h3 : e + 1075 < 2047) (hc : 4503599627370496 ≤ q ∨ e = -1074) :
    parts_put.f neg q e = some (sgn neg + (q + (e + 1074) * 4503599627370496)) := by
  have hs : sgn neg = 0 ∨ sgn neg = 9223372036854775808 := by cases neg <;> simp [sgn]
  unfold parts_put.f
  rw [zero_sgn]
  simp only [Option.bind_some]
  generalize sgn neg = s at *
  by_cases g : q < 4503599627370496
  · rw [if_pos g, (or64_join 52 q s h0 (by omega) (by omega) (by omega) (by omega) (by omega)).2]
    congr 1; omega
  · rw [if_neg g, w64 (by omega) (by omega), wraps_u64 (e + 1075) (by omega) (by omega), wraps_u64 _ (by omega) (by omega), and52 h0 (by omega)]
    have hj : Go.bits .or .u64 s ((e + 1075) * 4503599627370496) = s + (e + 1075) * 4503599627370496 := (or64_join 63 ((e + 1075) * 4503599627370496) s (by omega) (by omega) (by omega) (by omega) (by omega) (by omega)).2
    rw [hj, (or64_join 52 (q % 4503599627370496) (s + (e + 1075) * 4503599627370496) (by omega) (by omega) (by omega) (by omega) (by omega) (by omega)).2]
    congr 1; omega
theorem j6_ev (neg : Bool) (mode : Int) {q e : Int} (fl : Int) (h0 : 0 ≤ q) (h1 : q < 9007199254740992) (h2 : -1074 ≤ e) (hc : 4503599627370496 ≤ q ∨ e = -1074) (x : Bool)
    (hx : x = decide (9218868437227405312 ≤ q + (e + 1074) * 4503599627370496)) :
    Ev (fun k => parts_Round.j6 k neg mode e q fl x) (res neg mode (q + (e + 1074) * 4503599627370496) fl) := by
  unfold res
  by_cases g : 9218868437227405312 ≤ q + (e + 1074) * 4503599627370496
  · rw [if_pos g]
    refine Ev.step (f := fun k => (parts_over.f k neg mode).bind fun bt => some (bt.1, bt.2)) (fun k => ?_) (Ev.bind (over_ev neg mode) (Ev.now _))
    simp only [parts_Round.j6]
    rw [hx, decide_eq_true g, if_pos rfl]
  · rw [if_neg g]
    refine Ev.no (fun k => ?_)
    simp only [parts_Round.j6]
    rw [hx, decide_eq_false g, if_neg (by decide), put_eq neg h0 h1 h2 (by omega) hc]; rfl
theorem j5_ev (neg : Bool) (mode : Int) {q e : Int} (fl : Int) (h0 : 0 ≤ q) (h1 : q < 9007199254740992) (h2 : -1074 ≤ e) (h3 : e < 100000) (hc : 4503599627370496 ≤ q ∨ e = -1074) :
    Ev (fun k => parts_Round.j5 k neg mode e q fl) (res neg mode (q + (e + 1074) * 4503599627370496) fl) := by
  refine Ev.step (fun k => ?_) (j6_ev neg mode fl h0 h1 h2 hc _ rfl)
  simp only [parts_Round.j5]
  by_cases g : q ≥ 4503599627370496
  · rw [if_pos g, w64 (by omega) (by omega)]
    congr 1
    rw [Bool.eq_iff_iff, decide_eq_true_iff, decide_eq_true_iff]; omega
  · rw [if_neg g]
    congr 1
    rw [decide_eq_false]; omega
theorem j4_ev (neg : Bool) (mode : Int) {q e : Int} (fl : Int) (h0 : 0 ≤ q) (h1 : q ≤ 9007199254740992) (h2 : -1074 ≤ e) (h3 : e < 90000) (hc : 4503599627370496 ≤ q ∨ e = -1074) :
    Ev (fun k => parts_Round.j4 k neg mode e q fl) (res neg mode (q + (e + 1074) * 4503599627370496) fl) := by
  by_cases g : q = 9007199254740992
  · have := j5_ev neg mode (q := 4503599627370496) (e := e + 1) fl (by omega) (by omega) (by omega) (by omega) (Or.inl (by omega))
    rw [show 4503599627370496 + (e + 1 + 1074) * 4503599627370496 = q + (e + 1074) * 4503599627370496 by omega] at this
    refine Ev.step (fun k => ?_) this
    simp only [parts_Round.j4]
    rw [if_pos g, w64 (by omega) (by omega)]
  · refine Ev.step (fun k => ?_) (j5_ev neg mode fl h0 (by omega) h2 (by omega) hc)
    simp only [parts_Round.j4]
    rw [if_neg g]
theorem j3_ev (neg : Bool) (mode : Int) {q e : Int} (half rest : Bool) (fl : Int) (h0 : 0 ≤ q) (h1 : q < 9007199254740992) (h2 : -1074 ≤ e) (h3 : e < 90000) (hc : 4503599627370496 ≤ q ∨ e = -1074) :
    Ev (fun k => parts_Round.j3 k neg mode e q half rest fl) (res neg mode (q + (e + 1074) * 4503599627370496 + (if upP neg (q + (e + 1074) * 4503599627370496) half rest mode then 1 else 0)) fl) := by
  have hu : upP neg (q + (e + 1074) * 4503599627370496) half rest mode = upP neg q half rest mode := by
    unfold upP
    rw [show (q + (e + 1074) * 4503599627370496) % 2 = q % 2 by omega]
  rw [hu]
  by_cases g : upP neg q half rest mode = true
  · have := j4_ev neg mode (q := q + 1) (e := e) fl (by omega) (by omega) h2 h3 (by omega)
    rw [show q + 1 + (e + 1074) * 4503599627370496 = q + (e + 1074) * 4503599627370496 + 1 by omega] at this
    rw [if_pos g]
    refine Ev.step (fun k => ?_) this
    simp only [parts_Round.j3]
    rw [up_eq neg h0 (by omega)]
    simp only [Option.bind_some]
    rw [if_pos g, wraps_u64 _ (by omega) (by omega)]
  · rw [if_neg g, Int.add_zero]
    refine Ev.step (fun k => ?_) (j4_ev neg mode fl h0 (by omega) h2 h3 hc)
    simp only [parts_Round.j3]
    rw [up_eq neg h0 (by omega)]
    simp only [Option.bind_some]
    rw [if_neg g]
theorem j1_ev (neg : Bool) (mode x : Int) (n : Nat) {q e : Int} (half rest : Bool) (h0 : 0 ≤ q) (h1 : q < 9007199254740992) (h2 : -1074 ≤ e) (h3 : e < 90000) (hc : 4503599627370496 ≤ q ∨ e = -1074)
    (hx : -100000 < x) (hx' : x < 100000) (hn : n < 100000) :
    Ev (fun k => parts_Round.j1 k neg x mode n e q half rest) (fin neg (q + (e + 1074) * 4503599627370496) half rest (decide (x + n < -1021)) mode) := by
  have hf : ∀ fl, Ev (fun k => parts_Round.j3 k neg mode e q half rest fl) (res neg mode (q + (e + 1074) * 4503599627370496 + (if upP neg (q + (e + 1074) * 4503599627370496) half rest mode then 1 else 0)) fl) := fun fl => j3_ev neg mode half rest fl h0 h1 h2 h3 hc
  have hw : wrap64 (wrap64 (x + n) - 1) = x + n - 1 := by rw [w64 (x := x + n) (by omega) (by omega), w64 (by omega) (by omega)]
  have hj : ∀ y : Bool, Ev (fun k => parts_Round.j2 k neg x mode n e q half rest 0 y) (res neg mode (q + (e + 1074) * 4503599627370496 + (if upP neg (q + (e + 1074) * 4503599627370496) half rest mode then 1 else 0)) (if y = true then (if decide (x + n < -1021) = true then 24 else 16) else 0)) := by
    intro y
    refine Ev.step (fun k => ?_) (hf _)
    simp only [parts_Round.j2]
    rw [hw]
    by_cases hy : y = true
    · rw [if_pos hy, if_pos hy]
      by_cases ht : x + n < -1021
      · rw [if_pos (show x + n - 1 < -1022 by omega), if_pos (decide_eq_true ht)]; rfl
      · rw [if_neg (show ¬ x + n - 1 < -1022 by omega), if_neg (by rw [decide_eq_true_iff]; exact ht)]
    · rw [if_neg hy, if_neg hy]
  refine Ev.step (fun k => ?_) (hj (half || rest))
  simp only [parts_Round.j1]
  cases half
  · rw [if_neg (by decide)]; rfl
  · rw [if_pos rfl]; rfl
theorem eP_bd (n : Nat) (x : Int) : eP n x = x + n - 53 ∨ eP n x = -1074 := by unfold eP mx; split <;> omega
theorem eP_ge (n : Nat) (x : Int) : x + n - 53 ≤ eP n x ∧ -1074 ≤ eP n x := by unfold eP mx; split <;> omega
theorem cutP_bd {W : Nat} (hW : W ≠ 0) (x : Int) :
    (cutP W (eP (bl W) x - x)).1 < 9007199254740992 ∧ (4503599627370496 ≤ (cutP W (eP (bl W) x - x)).1 ∨ eP (bl W) x = -1074) := by
  have h1 := lt_bl W
  have h2 := le_bl hW
  have h3 : 1 ≤ bl W := by rw [bl_pos hW]; omega
  have he := eP_bd (bl W) x
  have hg := eP_ge (bl W) x
  generalize eP (bl W) x = e at *
  generalize bl W = n at *
  unfold cutP
  by_cases g : e - x ≤ 0
  · rw [if_pos g]
    obtain ⟨d, hd⟩ : ∃ d : Nat, -(e - x) = (d : Int) := ⟨(-(e - x)).toNat, by omega⟩
    rw [hd, Int.toNat_natCast]
    have hp : 0 < 2 ^ d := Nat.pow_pos (by omega)
    constructor
    · show W * 2 ^ d < 9007199254740992
      refine Nat.lt_of_lt_of_le ((Nat.mul_lt_mul_right hp).2 h1) ?_
      rw [← Nat.pow_add]
      exact Nat.pow_le_pow_right (show 2 > 0 by omega) (show n + d ≤ 53 by omega)
    · rcases he with he | he
      · left
        show 4503599627370496 ≤ W * 2 ^ d
        refine Nat.le_trans ?_ (Nat.mul_le_mul_right _ h2)
        rw [← Nat.pow_add]
        exact Nat.pow_le_pow_right (show 2 > 0 by omega) (show 52 ≤ n - 1 + d by omega)
      · right; exact he
  · rw [if_neg g]
    obtain ⟨d, hd⟩ : ∃ d : Nat, (e - x) = (d : Int) := ⟨(e - x).toNat, by omega⟩
    rw [hd, Int.toNat_natCast]
    have hp : 0 < 2 ^ d := Nat.pow_pos (by omega)
    constructor
    · show W / 2 ^ d < 9007199254740992
      refine Nat.div_lt_of_lt_mul (Nat.lt_of_lt_of_le h1 ?_)
      rw [show (9007199254740992 : Nat) = 2 ^ 53 by decide, ← Nat.pow_add]
      exact Nat.pow_le_pow_right (by omega) (by omega)
    · rcases he with he | he
      · left
        show 4503599627370496 ≤ W / 2 ^ d
        refine (Nat.le_div_iff_mul_le hp).2 (Nat.le_trans ?_ h2)
        rw [show (4503599627370496 : Nat) = 2 ^ 52 by decide, ← Nat.pow_add]
        exact Nat.pow_le_pow_right (by omega) (by omega)
      · right; exact he
theorem cutP_ev {h l W : Nat} (e0 : h * 18446744073709551616 + l = W) (hh : h < 18446744073709551616) (hl : l < 18446744073709551616) (hW : W ≠ 0) {x : Int} (hx : -16384 ≤ x) (hx' : x ≤ 16384) :
    Ev (fun k => parts_wide_cut.f k h l (eP (bl W) x - x)) (((cutP W (eP (bl W) x - x)).1 : Int), (cutP W (eP (bl W) x - x)).2.1, (cutP W (eP (bl W) x - x)).2.2) := by
  have hb := (cutP_bd hW x).1
  have h3 : bl W ≤ 128 := bl_le (show W < 2 ^ 128 by omega)
  have h4 : 1 ≤ bl W := by rw [bl_pos hW]; omega
  have he := eP_bd (bl W) x
  have hg := eP_ge (bl W) x
  generalize eP (bl W) x = e at *
  generalize bl W = n at *
  unfold cutP at hb ⊢
  by_cases g : e - x ≤ 0
  · obtain ⟨d, hd⟩ : ∃ d : Nat, e - x = -(d : Int) := ⟨(-(e - x)).toNat, by omega⟩
    rw [if_pos g] at hb ⊢
    rw [hd, Int.neg_neg, Int.toNat_natCast] at hb
    rw [hd, Int.neg_neg, Int.toNat_natCast]
    refine Ev.congr (fun k => ?_) (Ev.now _)
    have hb' : W * 2 ^ d < 9007199254740992 := hb
    have hd' : d ≤ 64 := by omega
    subst e0
    exact cut_neg rfl k hl hd' (Nat.lt_trans hb' (by omega))
  · obtain ⟨d, hd⟩ : ∃ d : Nat, (e - x) = (d : Int) := ⟨(e - x).toNat, by omega⟩
    rw [if_neg g] at hb ⊢
    rw [hd, Int.toNat_natCast] at hb
    rw [hd, Int.toNat_natCast]
    have hb' : W / 2 ^ d < 9007199254740992 := hb
    have := cut_pos e0 hh hl (d := d) (by omega) (by omega)
    rw [Nat.mod_eq_of_lt (Nat.lt_trans hb' (by omega))] at this
    exact this
theorem round_ev (neg : Bool) {h l W : Nat} (e0 : h * 18446744073709551616 + l = W) (hh : h < 18446744073709551616) (hl : l < 18446744073709551616) (x0 : Int) (more : Bool) (mode : Int) :
    Ev (fun k => parts_Round.f k neg h l x0 more mode) (roundP neg W x0 more mode) := by
  have hlen := wlen hh hl
  rw [e0] at hlen
  unfold roundP
  by_cases hW : W = 0
  · subst hW
    rw [if_pos rfl]
    refine Ev.congr (fun k => ?_) (Ev.now _)
    unfold parts_Round.f
    rw [hlen, bl_zero]
    simp only [Option.bind_some]
    rw [if_pos (by rfl), zero_sgn]; rfl
  rw [if_neg hW]
  obtain ⟨hx, hx'⟩ := clamp_bd x0
  have h3 : bl W ≤ 128 := bl_le (show W < 2 ^ 128 by omega)
  have h4 : 1 ≤ bl W := by rw [bl_pos hW]; omega
  have hj : ∀ y : Bool, Ev (fun k => parts_Round.j0 k neg (clampP x0) y mode (bl W : Int) h l) (fin neg (((cutP W (eP (bl W) (clampP x0) - clampP x0)).1 : Int) + (eP (bl W) (clampP x0) + 1074) * 4503599627370496) (cutP W (eP (bl W) (clampP x0) - clampP x0)).2.1 ((cutP W (eP (bl W) (clampP x0) - clampP x0)).2.2 || y) (decide (clampP x0 + bl W < -1021)) mode) := by
    intro y
    have hc := cutP_ev e0 hh hl hW hx hx'
    have hb := cutP_bd hW (clampP x0)
    have he := eP_bd (bl W) (clampP x0)
    have hg := eP_ge (bl W) (clampP x0)
    have hw : mx (wrap64 (wrap64 (wrap64 (clampP x0 + (bl W : Int)) - 1) - 52)) (-1074) = eP (bl W) (clampP x0) := by
      rw [w64 (x := clampP x0 + (bl W : Int)) (by omega) (by omega), w64 (x := clampP x0 + (bl W : Int) - 1) (by omega) (by omega), w64 (by omega) (by omega)]
      unfold eP; congr 1; omega
    generalize cutP W (eP (bl W) (clampP x0) - clampP x0) = c at *
    generalize eP (bl W) (clampP x0) = e at *
    generalize clampP x0 = x at *
    generalize bl W = n at *
    refine Ev.step (f := fun k => (parts_wide_cut.f k h l (e - x)).bind fun bt126 => (if bt126.2.2 = true then (parts_Round.j1 k neg x mode n e bt126.1 bt126.2.1 true) else (parts_Round.j1 k neg x mode n e bt126.1 bt126.2.1 y))) (fun k => ?_) (Ev.bind hc ?_)
    · simp only [parts_Round.j0]
      rw [hw, w64 (x := e - x) (by omega) (by omega)]
    · have hf : ∀ r : Bool, Ev (fun k => parts_Round.j1 k neg x mode n e (c.1 : Int) c.2.1 r) (fin neg ((c.1 : Int) + (e + 1074) * 4503599627370496) c.2.1 r (decide (x + n < -1021)) mode) := fun r => by
        have h5 : 4503599627370496 ≤ (c.1 : Int) ∨ e = -1074 := by omega
        have h6 : (c.1 : Int) < 9007199254740992 := by omega
        exact j1_ev neg mode x n c.2.1 r (Int.natCast_nonneg _) h6 (by omega) (by omega) h5 (by omega) (by omega) (by omega)
      by_cases g : c.2.2 = true
      · simp only [if_pos g]
        rw [show (c.2.2 || y) = true by rw [g]; rfl]
        exact hf true
      · simp only [if_neg g]
        rw [show (c.2.2 || y) = y by rw [Bool.not_eq_true] at g; rw [g]; rfl]
        exact hf y
  refine Ev.congr (f := fun k => parts_Round.j0 k neg (clampP x0) (more && (decide (55 ≤ bl W) || decide (clampP x0 ≤ -1080))) mode (bl W : Int) h l) (fun k => ?_) (hj _)
  unfold parts_Round.f
  rw [hlen]
  simp only [Option.bind_some]
  rw [if_neg (by omega)]
  change (if more = true then (if (bl W : Int) ≥ 55 then parts_Round.j0 k neg (clampP x0) true mode (bl W : Int) h l else parts_Round.j0 k neg (clampP x0) (decide (clampP x0 ≤ -1080)) mode (bl W : Int) h l) else parts_Round.j0 k neg (clampP x0) false mode (bl W : Int) h l) = _
  generalize clampP x0 = x at *
  generalize bl W = n at *
  cases more
  · rw [if_neg (by decide)]; rfl
  · rw [if_pos rfl]
    by_cases g : (55 : Nat) ≤ n
    · rw [if_pos (show (n : Int) ≥ 55 by omega), decide_eq_true g]; rfl
    · rw [if_neg (show ¬ (n : Int) ≥ 55 by omega), decide_eq_false g]; rfl
def shA (N : Nat) (s : Int) : Nat := N * 2 ^ s.toNat
def shB (D : Nat) (s : Int) : Nat := D * 2 ^ (-s).toNat
theorem shB_pos {D : Nat} (h : 0 < D) (s : Int) : 0 < shB D s := Nat.mul_pos h (Nat.pow_pos (by omega))
def halfR (N D : Nat) (s : Int) : Bool := decide (shB D s ≤ 2 * (shA N s % shB D s))
def restR (N D : Nat) (s : Int) : Bool := decide (shA N s % shB D s ≠ 0 ∧ 2 * (shA N s % shB D s) ≠ shB D s)
def tinyR (N D : Nat) (x : Int) : Bool := decide (shA N (x + 1022) < shB D (x + 1022))
def finR (neg : Bool) (N D : Nat) (x e mode : Int) : Int × Int :=
  fin neg (((shA N (x - e) / shB D (x - e) : Nat) : Int) + (e + 1074) * 4503599627370496) (halfR N D (x - e)) (restR N D (x - e)) (tinyR N D x) mode
def Q (N D : Nat) (s : Int) : Nat := shA N s / shB D s
theorem Q_half (N D : Nat) (s : Int) : Q N D (s - 1) = Q N D s / 2 := by
  unfold Q shA shB
  by_cases g : 1 ≤ s
  · obtain ⟨m, hm⟩ : ∃ m : Nat, s = (m : Int) + 1 := ⟨(s - 1).toNat, by omega⟩
    subst hm
    rw [show ((m : Int) + 1 - 1).toNat = m by omega, show ((m : Int) + 1).toNat = m + 1 by omega, show (-((m : Int) + 1 - 1)).toNat = 0 by omega, show (-((m : Int) + 1)).toNat = 0 by omega, Nat.pow_succ, Nat.pow_zero, Nat.mul_one]
    rw [Nat.div_div_eq_div_mul, ← Nat.mul_assoc, Nat.mul_div_mul_right _ _ (by omega)]
  · obtain ⟨m, hm⟩ : ∃ m : Nat, s = -(m : Int) := ⟨(-s).toNat, by omega⟩
    subst hm
    rw [show (-(m : Int) - 1).toNat = 0 by omega, show (-(m : Int)).toNat = 0 by omega, show (-(-(m : Int) - 1)).toNat = m + 1 by omega, show (-(-(m : Int))).toNat = m by omega, Nat.pow_succ, Nat.div_div_eq_div_mul, Nat.mul_assoc]
theorem Q_down (N D : Nat) (s : Int) (m : Nat) : Q N D (s - m) * 2 ^ m ≤ Q N D s := by
  induction m with
  | zero => rw [Nat.pow_zero, Nat.mul_one, show s - ((0 : Nat) : Int) = s by omega]; exact Nat.le_refl _
  | succ m ih =>
    rw [show s - ((m + 1 : Nat) : Int) = s - (m : Int) - 1 by omega, Q_half, Nat.pow_succ]
    refine Nat.le_trans ?_ ih
    rw [Nat.mul_comm (2 ^ m) 2, ← Nat.mul_assoc]
    exact Nat.mul_le_mul_right _ (by omega)
def canon (N D : Nat) (x e : Int) : Prop := -1074 ≤ e ∧ Q N D (x - e) < 9007199254740992 ∧ (4503599627370496 ≤ Q N D (x - e) ∨ e = -1074)
theorem canon_le {N D : Nat} {x e f : Int} (he : canon N D x e) (hf : canon N D x f) : e ≤ f := by
  by_cases g : e ≤ f
  · exact g
  · have h1 : 4503599627370496 ≤ Q N D (x - e) := by rcases he.2.2 with h | h; exact h; have := hf.1; omega
    have h2 := Q_down N D (x - f) (e - f - 1).toNat
    have h3 := Q_half N D (x - f - ((e - f - 1).toNat : Int))
    rw [show x - f - ((e - f - 1).toNat : Int) - 1 = x - e by omega] at h3
    have h4 := Nat.le_mul_of_pos_right (Q N D (x - f - ((e - f - 1).toNat : Int))) (Nat.pow_pos (n := (e - f - 1).toNat) (show 0 < 2 by omega))
    have := hf.2.1
    omega
theorem canon_eq {N D : Nat} {x e f : Int} (he : canon N D x e) (hf : canon N D x f) : e = f := Int.le_antisymm (canon_le he hf) (canon_le hf he)
theorem sh_lt {N D : Nat} (hD : D ≠ 0) {s : Int} {c d : Nat} (h : (bl N : Int) + s + c ≤ (bl D : Int) - 1 + d) : shA N s * 2 ^ c < shB D s * 2 ^ d := by
  unfold shA shB
  have h1 := lt_bl N
  have h2 := le_bl hD
  have h3 : 1 ≤ bl D := by rw [bl_pos hD]; omega
  rw [Nat.mul_assoc, Nat.mul_assoc, ← Nat.pow_add, ← Nat.pow_add]
  refine Nat.lt_of_lt_of_le ((Nat.mul_lt_mul_right (Nat.pow_pos (by omega))).2 h1) (Nat.le_trans ?_ (Nat.mul_le_mul_right _ h2))
  rw [← Nat.pow_add, ← Nat.pow_add]
  exact Nat.pow_le_pow_right (by omega) (by omega)
theorem sh_ge {N D : Nat} (hN : N ≠ 0) {s : Int} {c : Nat} (h : (bl D : Int) + c ≤ (bl N : Int) - 1 + s) : shB D s * 2 ^ c ≤ shA N s := by
  unfold shA shB
  have h1 := lt_bl D
  have h2 := le_bl hN
  have h3 : 1 ≤ bl N := by rw [bl_pos hN]; omega
  rw [Nat.mul_assoc, ← Nat.pow_add]
  refine Nat.le_trans (Nat.mul_le_mul_right _ (Nat.le_of_lt h1)) (Nat.le_trans ?_ (Nat.mul_le_mul_right _ h2))
  rw [← Nat.pow_add, ← Nat.pow_add]
  exact Nat.pow_le_pow_right (by omega) (by omega)
def eR (N D : Nat) (x : Int) : Int := mx ((bl N : Int) - (bl D : Int) + x - 54) (-1074)
theorem eR_bd (N D : Nat) (x : Int) : (eR N D x = (bl N : Int) - (bl D : Int) + x - 54 ∨ eR N D x = -1074) ∧ (bl N : Int) - (bl D : Int) + x - 54 ≤ eR N D x ∧ -1074 ≤ eR N D x := by unfold eR mx; split <;> omega
theorem Q_start {N D : Nat} (hD : D ≠ 0) (x : Int) : shA N (x - eR N D x) < shB D (x - eR N D x) * 2 ^ 55 := by
  have h := (eR_bd N D x).2.1
  have := sh_lt (N := N) hD (s := x - eR N D x) (c := 0) (d := 55) (by omega)
  rwa [Nat.pow_zero, Nat.mul_one] at this
theorem canon_ex {N D : Nat} (hN : N ≠ 0) (hD : D ≠ 0) (x : Int) : ∃ e, canon N D x e ∧ eR N D x ≤ e ∧ e ≤ eR N D x + 3 := by
  have hb := eR_bd N D x
  have h0 : Q N D (x - eR N D x) < 2 ^ 55 := Nat.div_lt_of_lt_mul (Q_start hD x)
  have h1 : 4503599627370496 ≤ Q N D (x - eR N D x) ∨ eR N D x = -1074 := by
    rcases hb.1 with h | h
    · left
      refine (Nat.le_div_iff_mul_le (shB_pos (by omega) _)).2 ?_
      rw [Nat.mul_comm]
      have := sh_ge (D := D) hN (s := x - eR N D x) (c := 52) (by omega)
      exact this
    · right; exact h
  have q1 := Q_half N D (x - eR N D x)
  have q2 := Q_half N D (x - eR N D x - 1)
  have q3 := Q_half N D (x - eR N D x - 1 - 1)
  rw [show x - eR N D x - 1 = x - (eR N D x + 1) by omega] at q1 q2 q3
  rw [show x - (eR N D x + 1) - 1 = x - (eR N D x + 2) by omega] at q2 q3
  rw [show x - (eR N D x + 2) - 1 = x - (eR N D x + 3) by omega] at q3
  by_cases g0 : Q N D (x - eR N D x) < 9007199254740992
  · exact ⟨_, ⟨hb.2.2, g0, h1⟩, by omega, by omega⟩
  by_cases g1 : Q N D (x - (eR N D x + 1)) < 9007199254740992
  · exact ⟨_, ⟨by omega, g1, Or.inl (by omega)⟩, by omega, by omega⟩
  by_cases g2 : Q N D (x - (eR N D x + 2)) < 9007199254740992
  · exact ⟨_, ⟨by omega, g2, Or.inl (by omega)⟩, by omega, by omega⟩
  · exact ⟨eR N D x + 3, ⟨by omega, by omega, Or.inl (by omega)⟩, by omega, by omega⟩
theorem bl_one : bl 1 = 1 := by rw [bl_pos (by omega), show 1 / 2 = 0 from rfl, bl_zero]
theorem cutP_R (W : Nat) (d : Int) : cutP W d = (Q W 1 (-d), halfR W 1 (-d), restR W 1 (-d)) := by
  unfold cutP Q halfR restR shA shB
  by_cases g : d ≤ 0
  · rw [if_pos g, show (-(-d)).toNat = 0 by omega, Nat.pow_zero, Nat.mul_one, Nat.div_one, Nat.mod_one]
    rw [decide_eq_false (by omega), decide_eq_false (by omega)]
  · obtain ⟨m, hm⟩ : ∃ m : Nat, d = (m : Int) + 1 := ⟨(d - 1).toNat, by omega⟩
    subst hm
    rw [if_neg g, show ((m : Int) + 1).toNat = m + 1 by omega, show (-((m : Int) + 1)).toNat = 0 by omega, show (-(-((m : Int) + 1))).toNat = m + 1 by omega, Nat.pow_zero, Nat.mul_one, Nat.one_mul, Nat.add_sub_cancel]
    have h1 : W % 2 ^ (m + 1) = W % 2 ^ m + 2 ^ m * (W / 2 ^ m % 2) := by rw [Nat.pow_succ, Nat.mod_mul]
    have h2 : W % 2 ^ m < 2 ^ m := Nat.mod_lt _ (Nat.pow_pos (by omega))
    have h3 : W / 2 ^ m % 2 = 0 ∨ W / 2 ^ m % 2 = 1 := by omega
    have h4 : (2 : Nat) ^ (m + 1) = 2 * 2 ^ m := by rw [Nat.pow_succ, Nat.mul_comm]
    rw [h1]
    generalize W / 2 ^ (m + 1) = q
    rw [h4]
    generalize W / 2 ^ m % 2 = b at *
    generalize W % 2 ^ m = w at *
    generalize 2 ^ m = M at *
    clear h1 h4 g
    rcases h3 with h | h
    · subst h
      rw [Nat.mul_zero, Nat.add_zero]
      congr 2
      · rw [Bool.eq_iff_iff, decide_eq_true_iff, decide_eq_true_iff]; omega
      · rw [Bool.eq_iff_iff, decide_eq_true_iff, decide_eq_true_iff]; omega
    · subst h
      rw [Nat.mul_one]
      congr 2
      · rw [Bool.eq_iff_iff, decide_eq_true_iff, decide_eq_true_iff]; omega
      · rw [Bool.eq_iff_iff, decide_eq_true_iff, decide_eq_true_iff]; omega
theorem canon_parts {W : Nat} (hW : W ≠ 0) (x : Int) : canon W 1 x (eP (bl W) x) := by
  have h := cutP_bd hW x
  rw [cutP_R, show -(eP (bl W) x - x) = x - eP (bl W) x by omega] at h
  exact ⟨(eP_ge _ _).2, h.1, h.2⟩
theorem tiny_parts {W : Nat} (hW : W ≠ 0) (x : Int) : tinyR W 1 x = decide (x + bl W < -1021) := by
  unfold tinyR
  by_cases g : x + bl W < -1021
  · have := sh_lt (N := W) (D := 1) (by omega) (s := x + 1022) (c := 0) (d := 0) (by rw [bl_one]; omega)
    rw [Nat.pow_zero, Nat.mul_one, Nat.mul_one] at this
    rw [decide_eq_true this, decide_eq_true g]
  · rw [decide_eq_false g, decide_eq_false]
    have h2 := le_bl hW
    have h3 : 1 ≤ bl W := by rw [bl_pos hW]; omega
    unfold shA shB
    rw [Nat.one_mul]
    refine Nat.not_lt.2 (Nat.le_trans ?_ (Nat.mul_le_mul_right _ h2))
    rw [← Nat.pow_add]
    exact Nat.pow_le_pow_right (by omega) (by omega)
theorem finR_parts (neg : Bool) {W : Nat} (hW : W ≠ 0) (x mode : Int) : finR neg W 1 x (eP (bl W) x) mode =
    fin neg (((cutP W (eP (bl W) x - x)).1 : Int) + (eP (bl W) x + 1074) * 4503599627370496) (cutP W (eP (bl W) x - x)).2.1 (cutP W (eP (bl W) x - x)).2.2 (decide (x + bl W < -1021)) mode := by
  rw [cutP_R, show -(eP (bl W) x - x) = x - eP (bl W) x by omega, ← tiny_parts hW]; rfl
theorem roundP_eq (neg : Bool) {W : Nat} (hW : W ≠ 0) (x0 : Int) (more : Bool) (mode : Int) : roundP neg W x0 more mode =
    fin neg (((cutP W (eP (bl W) (clampP x0) - clampP x0)).1 : Int) + (eP (bl W) (clampP x0) + 1074) * 4503599627370496) (cutP W (eP (bl W) (clampP x0) - clampP x0)).2.1
      ((cutP W (eP (bl W) (clampP x0) - clampP x0)).2.2 || (more && (decide (55 ≤ bl W) || decide (clampP x0 ≤ -1080)))) (decide (clampP x0 + bl W < -1021)) mode := by
  unfold roundP
  rw [if_neg hW]
theorem clamp_in {x : Int} (h0 : -16384 ≤ x) (h1 : x ≤ 16384) : clampP x = x := by unfold clampP mn mx; split <;> split <;> omega
/-- What a binary64 number's parts come to, rounded: itself. -/
theorem round_exact (neg : Bool) {q : Nat} {e : Int} (h1 : q < 9007199254740992) (h2 : -1074 ≤ e) (h3 : e ≤ 971) (hc : 4503599627370496 ≤ q ∨ e = -1074) :
    roundP neg q e false 0 = (sgn neg + ((q : Int) + (e + 1074) * 4503599627370496), 0) ∨ (q = 0 ∧ roundP neg q e false 0 = (sgn neg, 0)) := by
  by_cases h0 : q = 0
  · right; refine ⟨h0, ?_⟩; subst h0; unfold roundP; rw [if_pos rfl]
  left
  have hb : bl q ≤ 53 := bl_le (show q < 2 ^ 53 from h1)
  have he : eP (bl q) e = e := by
    rcases hc with h | h
    · have := bl_gt (n := 52) (a := q) h
      have := eP_bd (bl q) e
      have := eP_ge (bl q) e
      omega
    · have := eP_bd (bl q) e
      have := eP_ge (bl q) e
      omega
  rw [roundP_eq neg h0, clamp_in (by omega) (by omega), he, show e - e = 0 by omega]
  have hcut : cutP q 0 = (q, false, false) := by unfold cutP; rw [if_pos (by omega)]; simp
  rw [hcut, Bool.false_and]
  show fin neg ((q : Int) + (e + 1074) * 4503599627370496) false false _ 0 = _
  have hu : upP neg ((q : Int) + (e + 1074) * 4503599627370496) false false 0 = false := by
    unfold upP; rw [if_neg (by decide), if_neg (by decide), if_neg (by decide), if_neg (by decide), Bool.false_and]
  unfold fin res
  rw [hu, if_neg (show ¬ false = true by decide), Int.add_zero, if_neg (by omega), if_neg (by decide)]
theorem parts_of {a : Int} (h0 : 0 ≤ a) (h1 : a < 18446744073709551616) (hE : E a ≠ 2047) :
    a = sgn (neg a) + (sg a + (ex a + 1074) * 4503599627370496) ∧ 0 ≤ sg a ∧ sg a < 9007199254740992 ∧ -1074 ≤ ex a ∧ ex a ≤ 971 ∧ (4503599627370496 ≤ sg a ∨ ex a = -1074) := by
  have hs : sgn (neg a) = a / 9223372036854775808 * 9223372036854775808 := by
    unfold neg sgn
    by_cases g : a ≥ 9223372036854775808
    · rw [decide_eq_true g, if_pos rfl]; omega
    · rw [decide_eq_false g, if_neg (by decide)]; omega
  rw [hs]
  unfold sg ex
  unfold E F at *
  split <;> omega
theorem of_parts (neg0 : Bool) {q e : Int} (h0 : 0 ≤ q) (h1 : q < 9007199254740992) (h2 : -1074 ≤ e) (hc : 4503599627370496 ≤ q ∨ e = -1074) (hi : q + (e + 1074) * 4503599627370496 < 9218868437227405312) :
    sg (sgn neg0 + (q + (e + 1074) * 4503599627370496)) = q ∧ ex (sgn neg0 + (q + (e + 1074) * 4503599627370496)) = e := by
  have hs : sgn neg0 = 0 ∨ sgn neg0 = 9223372036854775808 := by cases neg0 <;> simp [sgn]
  generalize sgn neg0 = s at *
  unfold sg ex E F
  constructor <;> split <;> omega
-- bits.Div64 of a number of two words by a divisor whose highest bit is one: its loops, and its words.
theorem u64N {n : Nat} (h : n < 18446744073709551616) : IntKind.u64.wrap (n : Int) = (n : Int) := wraps_u64 _ (by omega) (by omega)
theorem trial {y1 y0 u1 u q r Y U : Nat} (hY : y1 * 4294967296 + y0 = Y) (hU : u1 * 4294967296 + u = U) (h : q * y1 + r = u1) : q * Y + r * 4294967296 + u = U + q * y0 := by
  rw [← hY, ← hU, ← h, Nat.mul_add, Nat.add_mul, Nat.mul_assoc]; omega
theorem trial_low {y1 y0 u1 u q r Y U : Nat} (hY : y1 * 4294967296 + y0 = Y) (hU : u1 * 4294967296 + u = U) (h : q * y1 + r = u1) (hp : 0 < Y) (ht : q * y0 ≤ 4294967296 * r + u) : q ≤ U / Y := by
  have := trial hY hU h
  exact (Nat.le_div_iff_mul_le hp).2 (by omega)
theorem trial_high {y1 y0 u1 u q r Y U : Nat} (hY : y1 * 4294967296 + y0 = Y) (hU : u1 * 4294967296 + u = U) (h : q * y1 + r = u1) (hp : 0 < Y) (ht : 4294967296 * r + u < q * y0) : U / Y < q := by
  have := trial hY hU h
  exact (Nat.div_lt_iff_lt_mul hp).2 (by omega)
theorem quo_lt {u1 u Y U : Nat} (hU : u1 * 4294967296 + u = U) (hu : u < 4294967296) (h : u1 < Y) : U / Y < 4294967296 := Nat.div_lt_of_lt_mul (by
  have : (u1 + 1) * 4294967296 ≤ Y * 4294967296 := Nat.mul_le_mul_right _ h
  omega)
theorem first_hi {y1 y0 u1 u Y U : Nat} (hY : y1 * 4294967296 + y0 = Y) (hU : u1 * 4294967296 + u = U) (hu : u < 4294967296) (h1 : 0 < y1) : U / Y ≤ u1 / y1 := by
  refine (Nat.le_div_iff_mul_le h1).2 ?_
  have hp : 0 < Y := by omega
  have h2 := Nat.div_mul_le_self U Y
  rw [← hY, Nat.mul_add, ← Nat.mul_assoc] at h2
  rw [hY] at h2
  generalize U / Y * y1 = z at *
  omega
theorem first_lo {y1 y0 u1 Y : Nat} (hY : y1 * 4294967296 + y0 = Y) (h0 : y0 < 4294967296) (h1 : 2147483648 ≤ y1) (h : u1 < Y) : u1 / y1 ≤ 4294967297 := by
  have : u1 / y1 < 4294967298 := Nat.div_lt_of_lt_mul (by omega)
  omega
theorem div_l0 {y1 y0 u1 u Y U : Nat} (hY : y1 * 4294967296 + y0 = Y) (hU : u1 * 4294967296 + u = U) (hu : u < 4294967296) (h0 : y0 < 4294967296) (h1 : 2147483648 ≤ y1) (h2 : y1 < 4294967296) (hlt : u1 < Y)
    (s lo : Int) (R : Int × Int) (next : Ev (fun k => bits_Div64.j2 k Y s y1 y0 u1 u lo ((U / Y : Nat) : Int)) R) :
    ∀ n q r : Nat, q = U / Y + n → q * y1 + r = u1 → r < 4294967296 → q ≤ 4294967297 → Ev (fun k => bits_Div64.l0 k Y s y1 y0 u1 u lo q r) R := by
  have hp : 0 < Y := by omega
  have hq := quo_lt hU hu hlt
  intro n
  induction n with
  | zero =>
    intro q r hn hqr hr hq1
    obtain rfl : q = U / Y := by omega
    have ht : U / Y * y0 ≤ 4294967296 * r + u := by
      by_cases g : U / Y * y0 ≤ 4294967296 * r + u
      · exact g
      · have := trial_high hY hU hqr hp (by omega); omega
    have hm : U / Y * y0 < 18446744073709551616 := by omega
    refine Ev.step (f := fun k => bits_Div64.j1 k Y s y1 y0 u1 u lo ((U / Y : Nat) : Int) r false) (fun k => ?_) (Ev.step (fun k => ?_) next)
    · simp only [bits_Div64.l0]
      rw [if_neg (by omega), ← Int.natCast_mul, u64N hm, show (4294967296 : Int) * (r : Int) = ((4294967296 * r : Nat) : Int) by omega, u64N (n := 4294967296 * r) (by omega), ← Int.natCast_add, u64N (n := 4294967296 * r + u) (by omega), decide_eq_false (by omega)]
    · simp only [bits_Div64.j1]; rw [if_neg (by decide)]
  | succ n ih =>
    intro q r hn hqr hr hq1
    have hm : q * y0 < 18446744073709551616 := by
      have : q * y0 ≤ 4294967297 * 4294967295 := Nat.mul_le_mul hq1 (by omega)
      omega
    have hq0 : 1 ≤ q := hn ▸ Nat.succ_le_succ (Nat.zero_le _)
    have hqr2 : (q - 1) * y1 + (r + y1) = u1 := by
      obtain ⟨p, rfl⟩ : ∃ p, q = p + 1 := ⟨q - 1, by omega⟩
      rw [Nat.add_sub_cancel]; rw [Nat.add_mul, Nat.one_mul] at hqr; omega
    have ht : q ≥ 4294967296 ∨ 4294967296 * r + u < q * y0 := by
      by_cases g : q * y0 ≤ 4294967296 * r + u
      · have := trial_low hY hU hqr hp g; omega
      · right; omega
    refine Ev.step (f := fun k => bits_Div64.j1 k Y s y1 y0 u1 u lo q r true) (fun k => ?_) ?_
    · simp only [bits_Div64.l0]
      by_cases g : q ≥ 4294967296
      · rw [if_pos (show (q : Int) ≥ 4294967296 by omega)]
      · rw [if_neg (by omega), ← Int.natCast_mul, u64N hm, show (4294967296 : Int) * (r : Int) = ((4294967296 * r : Nat) : Int) by omega, u64N (n := 4294967296 * r) (by omega), ← Int.natCast_add, u64N (n := 4294967296 * r + u) (by omega), decide_eq_true (by omega)]
    · have w1 : IntKind.u64.wrap ((r : Int) + (y1 : Int)) = ((r + y1 : Nat) : Int) := by rw [← Int.natCast_add, u64N (by omega)]
      have w2 : IntKind.u64.wrap ((q : Int) - 1) = ((q - 1 : Nat) : Int) := by rw [show (q : Int) - 1 = ((q - 1 : Nat) : Int) by omega, u64N (by omega)]
      by_cases g : r + y1 ≥ 4294967296
      · have he : q - 1 = U / Y := by
          have hm2 : (q - 1) * y0 ≤ 4294967296 * 4294967295 := Nat.mul_le_mul (by omega) (by omega)
          have := trial_low hY hU hqr2 hp (by omega)
          omega
        rw [← he] at next
        refine Ev.step (fun k => ?_) next
        simp only [bits_Div64.j1]
        rw [if_pos trivial, w1, w2, if_pos (by omega)]
      · refine Ev.step (fun k => ?_) (ih (q - 1) (r + y1) (by omega) hqr2 (by omega) (by omega))
        simp only [bits_Div64.j1]
        rw [if_pos trivial, w1, w2, if_neg (by omega)]
theorem div_l1 {y1 y0 u1 u Y U : Nat} (hY : y1 * 4294967296 + y0 = Y) (hU : u1 * 4294967296 + u = U) (hu : u < 4294967296) (h0 : y0 < 4294967296) (h1 : 2147483648 ≤ y1) (h2 : y1 < 4294967296) (hlt : u1 < Y) (qh : Nat) (hqh : qh < 4294967296) :
    ∀ n q r : Nat, q = U / Y + n → q * y1 + r = u1 → r < 4294967296 → q ≤ 4294967297 → Ev (fun k => bits_Div64.l1 k Y ((0 : Nat) : Int) y1 y0 u qh r u1 q) (((qh * 4294967296 + U / Y : Nat) : Int), ((U % Y : Nat) : Int)) := by
  have hp : 0 < Y := by omega
  have hq := quo_lt hU hu hlt
  have hYlt : Y < 18446744073709551616 := by omega
  have hmod : U / Y * Y + U % Y = U := by rw [Nat.mul_comm]; exact Nat.div_add_mod _ _
  have hml := Nat.mod_lt U hp
  have last : ∀ k : Nat, some (IntKind.u64.wrap (IntKind.u64.wrap ((qh : Int) * 4294967296) + ((U / Y : Nat) : Int)), shr .u64 (IntKind.u64.wrap (IntKind.u64.wrap (IntKind.u64.wrap ((u1 : Int) * 4294967296) + (u : Int)) - IntKind.u64.wrap (((U / Y : Nat) : Int) * (Y : Int)))) ((0 : Nat) : Int)) = some (((qh * 4294967296 + U / Y : Nat) : Int), ((U % Y : Nat) : Int)) := fun _ => by
    have e1 : IntKind.u64.wrap (IntKind.u64.wrap ((qh : Int) * 4294967296) + ((U / Y : Nat) : Int)) = ((qh * 4294967296 + U / Y : Nat) : Int) := by
      generalize U / Y = z at *
      rw [show (qh : Int) * 4294967296 = ((qh * 4294967296 : Nat) : Int) by omega, u64N (by omega), ← Int.natCast_add, u64N (by omega)]
    have e2 : IntKind.u64.wrap (IntKind.u64.wrap (IntKind.u64.wrap ((u1 : Int) * 4294967296) + (u : Int)) - IntKind.u64.wrap (((U / Y : Nat) : Int) * (Y : Int))) = ((U % Y : Nat) : Int) := by
      rw [← Int.natCast_mul]
      generalize U / Y * Y = z at *
      generalize U % Y = m at *
      rw [IntKind.wrap_u64, IntKind.wrap_u64, IntKind.wrap_u64, IntKind.wrap_u64]; omega
    rw [e1, e2, shr_nat (by omega), Nat.pow_zero, Nat.div_one]
  intro n
  induction n with
  | zero =>
    intro q r hn hqr hr hq1
    obtain rfl : q = U / Y := by omega
    have ht : U / Y * y0 ≤ 4294967296 * r + u := by
      by_cases g : U / Y * y0 ≤ 4294967296 * r + u
      · exact g
      · have := trial_high hY hU hqr hp (by omega); omega
    have hm : U / Y * y0 < 18446744073709551616 := by omega
    refine Ev.step (f := fun k => bits_Div64.j4 k Y ((0 : Nat) : Int) y1 y0 u qh r u1 ((U / Y : Nat) : Int) false) (fun k => ?_) (Ev.no (fun k => ?_))
    · simp only [bits_Div64.l1]
      rw [if_neg (by omega), ← Int.natCast_mul, u64N hm, show (4294967296 : Int) * (r : Int) = ((4294967296 * r : Nat) : Int) by omega, u64N (n := 4294967296 * r) (by omega), ← Int.natCast_add, u64N (n := 4294967296 * r + u) (by omega), decide_eq_false (by omega)]
    · simp only [bits_Div64.j4]; rw [if_neg (by decide), if_pos (by omega)]; exact last k
  | succ n ih =>
    intro q r hn hqr hr hq1
    have hm : q * y0 < 18446744073709551616 := by
      have : q * y0 ≤ 4294967297 * 4294967295 := Nat.mul_le_mul hq1 (by omega)
      omega
    have hq0 : 1 ≤ q := hn ▸ Nat.succ_le_succ (Nat.zero_le _)
    have hqr2 : (q - 1) * y1 + (r + y1) = u1 := by
      obtain ⟨p, rfl⟩ : ∃ p, q = p + 1 := ⟨q - 1, by omega⟩
      rw [Nat.add_sub_cancel]; rw [Nat.add_mul, Nat.one_mul] at hqr; omega
    have ht : q ≥ 4294967296 ∨ 4294967296 * r + u < q * y0 := by
      by_cases g : q * y0 ≤ 4294967296 * r + u
      · have := trial_low hY hU hqr hp g; omega
      · right; omega
    refine Ev.step (f := fun k => bits_Div64.j4 k Y ((0 : Nat) : Int) y1 y0 u qh r u1 q true) (fun k => ?_) ?_
    · simp only [bits_Div64.l1]
      by_cases g : q ≥ 4294967296
      · rw [if_pos (show (q : Int) ≥ 4294967296 by omega)]
      · rw [if_neg (by omega), ← Int.natCast_mul, u64N hm, show (4294967296 : Int) * (r : Int) = ((4294967296 * r : Nat) : Int) by omega, u64N (n := 4294967296 * r) (by omega), ← Int.natCast_add, u64N (n := 4294967296 * r + u) (by omega), decide_eq_true (by omega)]
    · have w1 : IntKind.u64.wrap ((r : Int) + (y1 : Int)) = ((r + y1 : Nat) : Int) := by rw [← Int.natCast_add, u64N (by omega)]
      have w2 : IntKind.u64.wrap ((q : Int) - 1) = ((q - 1 : Nat) : Int) := by rw [show (q : Int) - 1 = ((q - 1 : Nat) : Int) by omega, u64N (by omega)]
      by_cases g : r + y1 ≥ 4294967296
      · have he : q - 1 = U / Y := by
          have hm2 : (q - 1) * y0 ≤ 4294967296 * 4294967295 := Nat.mul_le_mul (by omega) (by omega)
          have := trial_low hY hU hqr2 hp (by omega)
          omega
        refine Ev.no (fun k => ?_)
        simp only [bits_Div64.j4]
        rw [if_pos trivial, w1, w2, if_pos (by omega), if_pos (by omega), he]; exact last k
      · refine Ev.step (fun k => ?_) (ih (q - 1) (r + y1) (by omega) hqr2 (by omega) (by omega))
        simp only [bits_Div64.j4]
        rw [if_pos trivial, w1, w2, if_neg (by omega)]
theorem twice_aux {m A r B z : Nat} (hA : m * 4294967296 + 0 = A) (hB : r * 4294967296 + 0 = B) (hz : z + r = A) : m * 18446744073709551616 = B + z * 4294967296 := by
  have e : m * 18446744073709551616 = m * 4294967296 * 4294967296 := by rw [Nat.mul_assoc]
  rw [e, ← hB, Nat.add_zero, ← Nat.add_mul, Nat.add_comm r z, hz, ← hA, Nat.add_zero]
theorem lz64 {a : Nat} (h : a < 18446744073709551616) : bits_LeadingZeros64.f (a : Int) = some ((64 - bl a : Nat) : Int) := by
  have := bl64 h
  unfold bits_LeadingZeros64.f
  rw [len64 h]
  simp only [Option.bind_some]
  rw [w64 (by omega) (by omega)]; congr 1; omega
theorem div64_ev {m Y : Nat} (hY : 9223372036854775808 ≤ Y) (hY2 : Y < 18446744073709551616) (hm : m < Y) (hm0 : 0 < m) :
    Ev (fun k => bits_Div64.f k m 0 Y) (((m * 18446744073709551616 / Y : Nat) : Int), ((m * 18446744073709551616 % Y : Nat) : Int)) := by
  have hb : bl Y = 64 := bl_eq (n := 63) (by omega) (by omega)
  obtain ⟨y1, hy1⟩ : ∃ y1, Y / 4294967296 = y1 := ⟨_, rfl⟩
  obtain ⟨y0, hy0⟩ : ∃ y0, Y % 4294967296 = y0 := ⟨_, rfl⟩
  have hYe : y1 * 4294967296 + y0 = Y := by omega
  have hpY : 0 < Y := by omega
  obtain ⟨A, hA⟩ : ∃ A, m * 4294967296 + 0 = A := ⟨_, rfl⟩
  have q1 := quo_lt hA (by omega) hm
  have r1 := Nat.mod_lt A hpY
  have d1 := Nat.div_add_mod A Y
  have f1 := first_hi hYe hA (by omega) (show 0 < y1 by omega)
  have g1 := first_lo (u1 := m) hYe (by omega) (by omega) hm
  have L := div_l0 hYe hA (by omega) (by omega) (by omega) (by omega) hm ((0 : Nat) : Int) ((0 : Nat) : Int)
  obtain ⟨q, hq⟩ : ∃ q, A / Y = q := ⟨_, rfl⟩
  obtain ⟨r, hr⟩ : ∃ r, A % Y = r := ⟨_, rfl⟩
  rw [hq] at q1 d1 f1 L
  rw [hr] at r1 d1
  obtain ⟨B, hB⟩ : ∃ B, r * 4294967296 + 0 = B := ⟨_, rfl⟩
  have q2 := quo_lt hB (by omega) r1
  have f2 := first_hi hYe hB (by omega) (show 0 < y1 by omega)
  have g2 := first_lo (u1 := r) hYe (by omega) (by omega) r1
  have M := div_l1 hYe hB (by omega) (by omega) (by omega) (by omega) r1 q q1
  have hC : m * 18446744073709551616 = B + Y * (q * 4294967296) := by
    rw [← Nat.mul_assoc]
    exact twice_aux hA hB d1
  have e1 : m * 18446744073709551616 / Y = q * 4294967296 + B / Y := by
    rw [hC, Nat.add_mul_div_left _ _ hpY, Nat.add_comm]
  have e2 : m * 18446744073709551616 % Y = B % Y := by
    rw [hC, Nat.add_mul_mod_self_left]
  rw [e1, e2]
  generalize B / Y = q' at *
  generalize B % Y = r' at *
  have hd : m * 4294967296 = q * Y + r := by rw [Nat.mul_comm q Y, d1, ← hA, Nat.add_zero]
  clear hC e1 e2 hA hB hq hr
  have s1 := Nat.div_add_mod m y1
  have s2 := Nat.div_add_mod r y1
  have t1 := Nat.mod_lt m (show 0 < y1 by omega)
  have t2 := Nat.mod_lt r (show 0 < y1 by omega)
  rw [Nat.mul_comm] at s1 s2
  have w1 : shl .u64 (Y : Int) ((0 : Nat) : Int) = (Y : Int) := by rw [shl_nat (by omega), Nat.pow_zero, Nat.mul_one, Nat.mod_eq_of_lt hY2]
  have w2 : shl .u64 (m : Int) ((0 : Nat) : Int) = (m : Int) := by rw [shl_nat (by omega), Nat.pow_zero, Nat.mul_one, Nat.mod_eq_of_lt (by omega)]
  have w3 : shl .u64 (0 : Int) ((0 : Nat) : Int) = 0 := by decide +kernel
  have w4 : shr .u64 (0 : Int) ((64 : Nat) : Int) = 0 := by decide +kernel
  have w5 : Go.bits .and .u64 (Y : Int) 4294967295 = (y0 : Int) := by
    have h := mask64 32 (by omega) (Y : Int) (by omega) (by omega)
    rw [show (2 : Int) ^ 32 = 4294967296 by decide] at h
    rw [show (4294967296 : Int) - 1 = 4294967295 by decide] at h
    rw [h]; omega
  have w6 : Go.bits .or .u64 (m : Int) 0 = (m : Int) := by
    have := u64_or_nat m 0 (by omega) (by omega)
    rw [Nat.or_zero] at this; exact this
  have w7 : Go.bits .and .u64 (0 : Int) 4294967295 = 0 := by decide +kernel
  have w8 : (Y : Int) / 4294967296 = (y1 : Int) := by omega
  have w9 : Int.tdiv (m : Int) (y1 : Int) = ((m / y1 : Nat) : Int) := by rw [Int.tdiv_eq_ediv_of_nonneg (by omega), Int.natCast_ediv]
  have w10 : IntKind.u64.wrap ((m : Int) - IntKind.u64.wrap (((m / y1 : Nat) : Int) * (y1 : Int))) = ((m % y1 : Nat) : Int) := by
    rw [← Int.natCast_mul]
    generalize m / y1 * y1 = z at *
    generalize m % y1 = x at *
    rw [u64N (n := z) (by omega), show (m : Int) - (z : Int) = (x : Int) by omega, u64N (by omega)]
  have w11 : IntKind.u64.wrap (((m / y1 : Nat) : Int)) = ((m / y1 : Nat) : Int) := u64N (by omega)
  have w12 : IntKind.u64.wrap (IntKind.u64.wrap (IntKind.u64.wrap ((m : Int) * 4294967296) + 0) - IntKind.u64.wrap ((q : Int) * (Y : Int))) = (r : Int) := by
    rw [← Int.natCast_mul q Y]
    generalize q * Y = z at *
    rw [IntKind.wrap_u64, IntKind.wrap_u64, IntKind.wrap_u64, IntKind.wrap_u64]; omega
  have w13 : Int.tdiv (r : Int) (y1 : Int) = ((r / y1 : Nat) : Int) := by rw [Int.tdiv_eq_ediv_of_nonneg (by omega), Int.natCast_ediv]
  have w14 : IntKind.u64.wrap ((r : Int) - IntKind.u64.wrap (((r / y1 : Nat) : Int) * (y1 : Int))) = ((r % y1 : Nat) : Int) := by
    rw [← Int.natCast_mul]
    generalize r / y1 * y1 = z at *
    generalize r % y1 = x at *
    rw [u64N (n := z) (by omega), show (r : Int) - (z : Int) = (x : Int) by omega, u64N (by omega)]
  have w15 : IntKind.u64.wrap (((r / y1 : Nat) : Int)) = ((r / y1 : Nat) : Int) := u64N (by omega)
  have J : Ev (fun k => bits_Div64.j2 k Y ((0 : Nat) : Int) y1 y0 m ((0 : Nat) : Int) ((0 : Nat) : Int) q) (((q * 4294967296 + q' : Nat) : Int), (r' : Int)) := by
    have M1 := M (r / y1 - q') (r / y1) (r % y1) (by omega) s2 (by omega) g2
    refine Ev.step (fun k => ?_) M1
    simp only [bits_Div64.j2]
    rw [if_neg (by omega), show (((0 : Nat) : Int)) = 0 from rfl, w12, w13, w15, w14]
  have L1 := L _ J (m / y1 - q) (m / y1) (m % y1) (by omega) s1 (by omega) g1
  refine Ev.congr (fun k => ?_) L1
  unfold bits_Div64.f
  rw [if_neg (by omega), if_neg (by omega), if_neg (by omega), lz64 hY2, hb]
  simp only [Option.bind_some]
  rw [show IntKind.u64.wrap (((64 - 64 : Nat)) : Int) = ((0 : Nat) : Int) from by decide +kernel, show IntKind.u64.wrap ((64 : Int) - ((0 : Nat) : Int)) = ((64 : Nat) : Int) from by decide +kernel]
  rw [w1, w2, w3, w4, w5, w6, w7, w8, w9, w11, w10, if_pos (by omega), if_pos (by omega), if_neg (by omega)]
  rfl
-- A quotient with more behind it, rounded: the same as the exact one.
def halfP (a b : Nat) : Bool := decide (b ≤ 2 * (a % b))
def restP (a b : Nat) : Bool := decide (a % b ≠ 0 ∧ 2 * (a % b) ≠ b)
theorem pair2 (a b : Nat) : 2 * a / (2 * b) = a / b ∧ halfP (2 * a) (2 * b) = halfP a b ∧ restP (2 * a) (2 * b) = restP a b ∧ decide (2 * a < 2 * b) = decide (a < b) := by
  unfold halfP restP
  rw [Nat.mul_mod_mul_left, Nat.mul_div_mul_left _ _ (by omega)]
  generalize a % b = r
  refine ⟨rfl, ?_, ?_, ?_⟩ <;> rw [Bool.eq_iff_iff, decide_eq_true_iff, decide_eq_true_iff] <;> omega
theorem sh_up (N D : Nat) (s : Int) : (shA (2 * N) (s - 1) = shA N s ∧ shB D (s - 1) = shB D s) ∨ (shA (2 * N) (s - 1) = 2 * shA N s ∧ shB D (s - 1) = 2 * shB D s) := by
  unfold shA shB
  by_cases g : 1 ≤ s
  · left
    obtain ⟨m, hm⟩ : ∃ m : Nat, s = (m : Int) + 1 := ⟨(s - 1).toNat, by omega⟩
    subst hm
    rw [show ((m : Int) + 1 - 1).toNat = m by omega, show ((m : Int) + 1).toNat = m + 1 by omega, show (-((m : Int) + 1 - 1)).toNat = 0 by omega, show (-((m : Int) + 1)).toNat = 0 by omega, Nat.pow_succ]
    exact ⟨by rw [Nat.mul_comm 2 N, Nat.mul_assoc, Nat.mul_comm 2], rfl⟩
  · right
    obtain ⟨m, hm⟩ : ∃ m : Nat, s = -(m : Int) := ⟨(-s).toNat, by omega⟩
    subst hm
    rw [show (-(m : Int) - 1).toNat = 0 by omega, show (-(m : Int)).toNat = 0 by omega, show (-(-(m : Int) - 1)).toNat = m + 1 by omega, show (-(-(m : Int))).toNat = m by omega, Nat.pow_succ]
    exact ⟨by rw [Nat.pow_zero, Nat.mul_one, Nat.mul_one], by rw [← Nat.mul_assoc, Nat.mul_comm]⟩
theorem sh_dn (N D : Nat) (s : Int) : (shA N (s + 1) = shA N s ∧ shB (2 * D) (s + 1) = shB D s) ∨ (shA N (s + 1) = 2 * shA N s ∧ shB (2 * D) (s + 1) = 2 * shB D s) := by
  unfold shA shB
  by_cases g : 0 ≤ s
  · right
    obtain ⟨m, hm⟩ : ∃ m : Nat, s = (m : Int) := ⟨s.toNat, by omega⟩
    subst hm
    rw [show ((m : Int) + 1).toNat = m + 1 by omega, show (m : Int).toNat = m by omega, show (-((m : Int) + 1)).toNat = 0 by omega, show (-(m : Int)).toNat = 0 by omega, Nat.pow_succ]
    exact ⟨by rw [← Nat.mul_assoc, Nat.mul_comm], by rw [Nat.pow_zero, Nat.mul_one, Nat.mul_one]⟩
  · left
    obtain ⟨m, hm⟩ : ∃ m : Nat, s = -((m : Int) + 1) := ⟨(-s - 1).toNat, by omega⟩
    subst hm
    rw [show (-((m : Int) + 1) + 1).toNat = 0 by omega, show (-((m : Int) + 1)).toNat = 0 by omega, show (-(-((m : Int) + 1) + 1)).toNat = m by omega, show (-(-((m : Int) + 1))).toNat = m + 1 by omega, Nat.pow_succ]
    exact ⟨rfl, by rw [Nat.mul_comm 2 D, Nat.mul_assoc, Nat.mul_comm 2]⟩
theorem same_pairs {N D N' D' : Nat} {x x' : Int} (h : ∀ z : Int, (shA N' (x' - z) = shA N (x - z) ∧ shB D' (x' - z) = shB D (x - z)) ∨ (shA N' (x' - z) = 2 * shA N (x - z) ∧ shB D' (x' - z) = 2 * shB D (x - z))) :
    (∀ neg e mode, finR neg N' D' x' e mode = finR neg N D x e mode) ∧ (∀ e, canon N' D' x' e ↔ canon N D x e) := by
  have key : ∀ z : Int, shA N' (x' - z) / shB D' (x' - z) = shA N (x - z) / shB D (x - z) ∧ halfR N' D' (x' - z) = halfR N D (x - z) ∧ restR N' D' (x' - z) = restR N D (x - z) ∧ decide (shA N' (x' - z) < shB D' (x' - z)) = decide (shA N (x - z) < shB D (x - z)) := fun z => by
    have hh : ∀ N D s, halfR N D s = halfP (shA N s) (shB D s) := fun _ _ _ => rfl
    have hr : ∀ N D s, restR N D s = restP (shA N s) (shB D s) := fun _ _ _ => rfl
    rw [hh, hh, hr, hr]
    rcases h z with ⟨h1, h2⟩ | ⟨h1, h2⟩
    · rw [h1, h2]; exact ⟨rfl, rfl, rfl, rfl⟩
    · rw [h1, h2]; exact pair2 _ _
  constructor
  · intro neg e mode
    obtain ⟨k1, k2, k3, _⟩ := key e
    have k4 := (key (-1022)).2.2.2
    unfold finR tinyR
    rw [show x' + 1022 = x' - -1022 by omega, show x + 1022 = x - -1022 by omega, k1, k2, k3, k4]
  · intro e
    unfold canon Q
    rw [(key e).1]
theorem up_same (N D : Nat) (x : Int) (n : Nat) : (∀ neg e mode, finR neg (N * 2 ^ n) D (x - n) e mode = finR neg N D x e mode) ∧ (∀ e, canon (N * 2 ^ n) D (x - n) e ↔ canon N D x e) := by
  induction n with
  | zero => rw [Nat.pow_zero, Nat.mul_one, show x - ((0 : Nat) : Int) = x by omega]; exact ⟨fun _ _ _ => rfl, fun _ => Iff.rfl⟩
  | succ n ih =>
    have := same_pairs (N := N * 2 ^ n) (D := D) (N' := N * 2 ^ (n + 1)) (D' := D) (x := x - n) (x' := x - ((n + 1 : Nat) : Int)) (fun z => by
      rw [show x - ((n + 1 : Nat) : Int) - z = x - n - z - 1 by omega, show N * 2 ^ (n + 1) = 2 * (N * 2 ^ n) by rw [Nat.pow_succ, ← Nat.mul_assoc, Nat.mul_comm]]
      exact sh_up _ _ _)
    exact ⟨fun a b c => (this.1 a b c).trans (ih.1 a b c), fun a => (this.2 a).trans (ih.2 a)⟩
theorem dn_same (N D : Nat) (x : Int) (n : Nat) : (∀ neg e mode, finR neg N (D * 2 ^ n) (x + n) e mode = finR neg N D x e mode) ∧ (∀ e, canon N (D * 2 ^ n) (x + n) e ↔ canon N D x e) := by
  induction n with
  | zero => rw [Nat.pow_zero, Nat.mul_one, show x + ((0 : Nat) : Int) = x by omega]; exact ⟨fun _ _ _ => rfl, fun _ => Iff.rfl⟩
  | succ n ih =>
    have := same_pairs (N := N) (D := D * 2 ^ n) (N' := N) (D' := D * 2 ^ (n + 1)) (x := x + n) (x' := x + ((n + 1 : Nat) : Int)) (fun z => by
      rw [show x + ((n + 1 : Nat) : Int) - z = x + n - z + 1 by omega, show D * 2 ^ (n + 1) = 2 * (D * 2 ^ n) by rw [Nat.pow_succ, ← Nat.mul_assoc, Nat.mul_comm]]
      exact sh_dn _ _ _)
    exact ⟨fun a b c => (this.1 a b c).trans (ih.1 a b c), fun a => (this.2 a).trans (ih.2 a)⟩
theorem tiny_quo {A B : Nat} (hB : 0 < B) (h0 : A / B ≠ 0) (X : Int) : tinyR A B X = decide (X + bl (A / B) < -1021) := by
  have h1 := lt_bl (A / B)
  have h2 := le_bl h0
  have h3 : 1 ≤ bl (A / B) := by rw [bl_pos h0]; exact Nat.le_add_left 1 _
  generalize bl (A / B) = n at *
  have hlo : B * 2 ^ (n - 1) ≤ A := by
    rw [Nat.mul_comm]; exact (Nat.le_div_iff_mul_le hB).1 h2
  have hhi : A < B * 2 ^ n := by
    rw [Nat.mul_comm]; exact (Nat.div_lt_iff_lt_mul hB).1 h1
  unfold tinyR shA shB
  by_cases g : X + n < -1021
  · rw [decide_eq_true g, decide_eq_true]
    rw [show (X + 1022).toNat = 0 by omega, Nat.pow_zero, Nat.mul_one]
    exact Nat.lt_of_lt_of_le hhi (Nat.mul_le_mul_left _ (Nat.pow_le_pow_right (by omega) (by omega)))
  · rw [decide_eq_false g, decide_eq_false]
    refine Nat.not_lt.2 (Nat.le_trans (Nat.mul_le_mul_left _ (Nat.pow_le_pow_right (show 2 > 0 by omega) (show (-(X + 1022)).toNat ≤ n - 1 by omega))) (Nat.le_trans hlo ?_))
    exact Nat.le_mul_of_pos_right _ (Nat.pow_pos (by omega))
theorem sticky (neg : Bool) {A B : Nat} (hB : 0 < B) (X mode : Int) (hb : 55 ≤ bl (A / B)) (hX : clampP X = X) :
    canon A B X (eP (bl (A / B)) X) ∧ roundP neg (A / B) X (decide (A % B ≠ 0)) mode = finR neg A B X (eP (bl (A / B)) X) mode := by
  have h0 : A / B ≠ 0 := fun h => by rw [h, bl_zero] at hb; omega
  have hc := cutP_bd h0 X
  have hg := eP_ge (bl (A / B)) X
  have ht := tiny_quo hB h0 X
  have hr := Nat.mod_lt A hB
  rw [roundP_eq neg h0, hX]
  have hm : (decide (A % B ≠ 0) && (decide (55 ≤ bl (A / B)) || decide (X ≤ -1080))) = decide (A % B ≠ 0) := by
    rw [decide_eq_true hb, Bool.true_or, Bool.and_true]
  rw [hm]
  unfold finR
  rw [ht]
  generalize decide (X + ↑(bl (A / B)) < -1021) = tiny at *
  generalize eP (bl (A / B)) X = e at *
  obtain ⟨m, hd⟩ : ∃ m : Nat, e - X = (m : Int) + 1 := ⟨(e - X - 1).toNat, by omega⟩
  have hcut : cutP (A / B) (e - X) = (A / B / 2 ^ (m + 1), decide (A / B / 2 ^ m % 2 = 1), decide (A / B % 2 ^ m ≠ 0)) := by
    unfold cutP
    rw [if_neg (by omega), hd, show ((m : Int) + 1).toNat = m + 1 by omega, Nat.add_sub_cancel]
  have hA : shA A (X - e) = A := by unfold shA; rw [show (X - e).toNat = 0 by omega, Nat.pow_zero, Nat.mul_one]
  have hBs : shB B (X - e) = B * 2 ^ (m + 1) := by unfold shB; rw [show (-(X - e)).toNat = m + 1 by omega]
  have hq : A / (B * 2 ^ (m + 1)) = A / B / 2 ^ (m + 1) := (Nat.div_div_eq_div_mul _ _ _).symm
  have hmod : A % (B * 2 ^ (m + 1)) = A % B + (B * (A / B % 2 ^ m) + B * 2 ^ m * (A / B / 2 ^ m % 2)) := by rw [Nat.mod_mul, Nat.pow_succ, Nat.mod_mul (x := A / B), Nat.mul_add, ← Nat.mul_assoc B]
  rw [hcut] at hc ⊢
  constructor
  · refine ⟨hg.2, ?_, ?_⟩
    · unfold Q; rw [hA, hBs, hq]; exact hc.1
    · unfold Q; rw [hA, hBs, hq]; exact hc.2
  · have hw : A / B % 2 ^ m < 2 ^ m := Nat.mod_lt _ (Nat.pow_pos (by omega))
    have hb2 : A / B / 2 ^ m % 2 = 0 ∨ A / B / 2 ^ m % 2 = 1 := by omega
    have hlt : A % B + B * (A / B % 2 ^ m) < B * 2 ^ m := by
      have := Nat.mul_le_mul_left B (show A / B % 2 ^ m + 1 ≤ 2 ^ m from hw)
      rw [Nat.mul_add, Nat.mul_one] at this; omega
    have hz : B * (A / B % 2 ^ m) = 0 ↔ A / B % 2 ^ m = 0 := by rw [Nat.mul_eq_zero]; omega
    have h2 : B * 2 ^ (m + 1) = 2 * (B * 2 ^ m) := by rw [Nat.pow_succ, ← Nat.mul_assoc, Nat.mul_comm]
    have hh : halfR A B (X - e) = decide (A / B / 2 ^ m % 2 = 1) := by
      unfold halfR
      rw [hA, hBs, hmod, h2]
      generalize A / B / 2 ^ m % 2 = b at *
      generalize B * (A / B % 2 ^ m) = bw at *
      generalize B * 2 ^ m = M at *
      generalize A % B = p at *
      rw [Bool.eq_iff_iff, decide_eq_true_iff, decide_eq_true_iff]
      rcases hb2 with h | h <;> subst h <;> omega
    have hrr : restR A B (X - e) = (decide (A / B % 2 ^ m ≠ 0) || decide (A % B ≠ 0)) := by
      unfold restR
      rw [hA, hBs, hmod, h2]
      generalize A / B / 2 ^ m % 2 = b at *
      generalize B * (A / B % 2 ^ m) = bw at *
      generalize A / B % 2 ^ m = w at *
      generalize B * 2 ^ m = M at *
      generalize A % B = p at *
      rw [Bool.eq_iff_iff, Bool.or_eq_true, decide_eq_true_iff, decide_eq_true_iff, decide_eq_true_iff]
      rcases hb2 with h | h <;> subst h <;> omega
    rw [hh, hrr, hA, hBs, hq]
-- fdiv's quotient of finite numbers that are not 0: the exact one, rounded.
theorem norm_bd {m : Nat} (h0 : m ≠ 0) (h1 : m < 9007199254740992) : bl m ≤ 53 ∧ 1 ≤ bl m ∧ m * 2 ^ (64 - bl m) < 18446744073709551616 ∧ 9223372036854775808 ≤ m * 2 ^ (64 - bl m) := by
  have a := lt_bl m
  have b := le_bl h0
  have c : bl m ≤ 53 := bl_le (show m < 2 ^ 53 from h1)
  have d : 1 ≤ bl m := by rw [bl_pos h0]; exact Nat.le_add_left 1 _
  generalize bl m = n at *
  have hp : 0 < 2 ^ (64 - n) := Nat.pow_pos (by omega)
  refine ⟨c, d, ?_, ?_⟩
  · have := (Nat.mul_lt_mul_right hp).2 a
    rwa [← Nat.pow_add, show n + (64 - n) = 64 by omega] at this
  · have := Nat.mul_le_mul_right (2 ^ (64 - n)) b
    rwa [← Nat.pow_add, show n - 1 + (64 - n) = 63 by omega] at this
theorem quotient_ev {a b : Int} (a0 : 0 ≤ a) (a1 : a < 18446744073709551616) (b0 : 0 ≤ b) (b1 : b < 18446744073709551616) (hEa : E a ≠ 2047) (hEb : E b ≠ 2047)
    {m k : Nat} (hm : sg a = (m : Int)) (hk : sg b = (k : Int)) (m0 : m ≠ 0) (k0 : k ≠ 0) (neg0 : Bool) (mode : Int) :
    ∃ e, canon m k (ex a - ex b) e ∧ Ev (fun n => fdiv_quotient.f n a b neg0 mode) (finR neg0 m k (ex a - ex b) e mode) := by
  obtain ⟨_, _, p3, p4, p5, _⟩ := parts_of a0 a1 hEa
  obtain ⟨_, _, r3, r4, r5, _⟩ := parts_of b0 b1 hEb
  have hm2 : m < 9007199254740992 := by omega
  have hk2 : k < 9007199254740992 := by omega
  obtain ⟨m1, m2, m3, m4⟩ := norm_bd m0 hm2
  obtain ⟨k1, k2, k3, k4⟩ := norm_bd k0 hk2
  have lm := lz64 (a := m) (by omega)
  have lk := lz64 (a := k) (by omega)
  obtain ⟨s, hs⟩ : ∃ s, 64 - bl m = s + 1 := ⟨63 - bl m, by omega⟩
  obtain ⟨t, ht⟩ : ∃ t, 64 - bl k = t := ⟨_, rfl⟩
  rw [hs] at m3 m4 lm
  rw [ht] at k3 k4 lk
  have hM : m * 2 ^ (s + 1) = 2 * (m * 2 ^ s) := by rw [Nat.pow_succ, ← Nat.mul_assoc, Nat.mul_comm]
  rw [hM] at m3 m4
  have s1 : shl .u64 (m : Int) ((s + 1 : Nat) : Int) / 2 = ((m * 2 ^ s : Nat) : Int) := by
    rw [shl_nat (by omega), hM, Nat.mod_eq_of_lt m3]
    generalize m * 2 ^ s = z
    omega
  have s2 : shl .u64 (k : Int) (t : Int) = ((k * 2 ^ t : Nat) : Int) := by rw [shl_nat (by omega), Nat.mod_eq_of_lt k3]
  obtain ⟨A, hA⟩ : ∃ A, m * 2 ^ s = A := ⟨_, rfl⟩
  obtain ⟨B, hB⟩ : ∃ B, k * 2 ^ t = B := ⟨_, rfl⟩
  rw [hA] at m3 m4 s1
  rw [hB] at k3 k4 s2
  have D := div64_ev (m := A) (Y := B) k4 k3 (by omega) (by omega)
  have hN : A * 18446744073709551616 = m * 2 ^ (s + 64) := by rw [← hA, Nat.pow_add, Nat.mul_assoc]
  obtain ⟨N, hNe⟩ : ∃ N, A * 18446744073709551616 = N := ⟨_, rfl⟩
  have hlo : 4611686018427387904 * B ≤ N := by
    have h1 := Nat.mul_le_mul_left 4611686018427387904 (Nat.le_of_lt k3)
    have h2 := Nat.mul_le_mul_right 18446744073709551616 (show 4611686018427387904 ≤ A by omega)
    rw [hNe] at h2
    exact Nat.le_trans h1 h2
  have hhi : N < B * 18446744073709551616 := by
    rw [← hNe]; exact (Nat.mul_lt_mul_right (by omega)).2 (by omega)
  rw [hNe] at D
  rw [hN] at hNe
  have hW1 : 4611686018427387904 ≤ N / B := (Nat.le_div_iff_mul_le (by omega)).2 hlo
  have hW2 : N / B < 18446744073709551616 := Nat.div_lt_of_lt_mul hhi
  have hbl : 55 ≤ bl (N / B) := by have := bl_gt (n := 62) (a := N / B) hW1; omega
  have hX := clamp_in (x := ex a - ex b - ((s + 64 : Nat) : Int) + (t : Int)) (by omega) (by omega)
  obtain ⟨hc, hr⟩ := sticky neg0 (A := N) (B := B) (by omega) (ex a - ex b - ((s + 64 : Nat) : Int) + (t : Int)) mode hbl hX
  have U := up_same m k (ex a - ex b) (s + 64)
  have V := dn_same (m * 2 ^ (s + 64)) k (ex a - ex b - ((s + 64 : Nat) : Int)) t
  rw [hNe, hB] at V
  rw [hNe] at U
  have R := round_ev neg0 (h := 0) (l := N / B) (W := N / B) (by rw [Nat.zero_mul, Nat.zero_add]) (by omega) hW2 (ex a - ex b - ((s + 64 : Nat) : Int) + (t : Int)) (decide (N % B ≠ 0)) mode
  rw [hr] at R
  refine ⟨_, (U.2 _).1 ((V.2 _).1 hc), ?_⟩
  rw [← U.1, ← V.1]
  have hmore : (((N % B : Nat) : Int) != 0) = decide (N % B ≠ 0) := by
    generalize N % B = z
    rw [Bool.eq_iff_iff, bne_iff_ne, decide_eq_true_iff]; omega
  have hx : wrap64 (wrap64 (wrap64 (wrap64 (ex a - ((s + 1 : Nat) : Int)) + 1) - 64) - wrap64 (ex b - (t : Int))) = ex a - ex b - ((s + 64 : Nat) : Int) + (t : Int) := by
    rw [w64 (x := ex a - ((s + 1 : Nat) : Int)) (by omega) (by omega), w64 (x := ex a - ((s + 1 : Nat) : Int) + 1) (by omega) (by omega), w64 (x := ex a - ((s + 1 : Nat) : Int) + 1 - 64) (by omega) (by omega), w64 (x := ex b - (t : Int)) (by omega) (by omega), w64 (by omega) (by omega)]
    omega
  unfold fdiv_quotient.f
  rw [split_eq a0 a1, split_eq b0 b1, if_neg hEa, if_neg hEb]
  simp only [Option.bind_some]
  rw [hm, hk, lm, lk]
  simp only [Option.bind_some]
  rw [s1, s2, hx]
  simp only [if_pos (show (0 : Int) ≤ ((s + 1 : Nat) : Int) by omega), if_pos (show (0 : Int) ≤ (t : Int) by omega)]
  refine Ev.bind D ?_
  simp only [hmore]
  exact Ev.bind R (Ev.now _)
theorem xor_neg {a b : Int} (a0 : 0 ≤ a) (a1 : a < 18446744073709551616) (b0 : 0 ≤ b) (b1 : b < 18446744073709551616) :
    ((Go.bits .and .u64 (Go.bits .xor .u64 a b) 9223372036854775808) != 0) = (decide (a ≥ 9223372036854775808) != decide (b ≥ 9223372036854775808)) := by
  obtain ⟨x, rfl⟩ := Int.eq_ofNat_of_zero_le a0
  obtain ⟨y, rfl⟩ := Int.eq_ofNat_of_zero_le b0
  rw [u64_xor_nat x y (by omega) (by omega)]
  have h1 : x ^^^ y < 2 ^ 64 := Nat.xor_lt_two_pow (by omega) (by omega)
  have h2 : (x ^^^ y) / 2 ^ 63 = (x / 2 ^ 63) ^^^ (y / 2 ^ 63) := Nat.xor_div_two_pow
  rw [negb (by omega) (by omega)]
  unfold neg
  have hx : x / 2 ^ 63 = 0 ∨ x / 2 ^ 63 = 1 := by omega
  have hy : y / 2 ^ 63 = 0 ∨ y / 2 ^ 63 = 1 := by omega
  generalize x ^^^ y = z at *
  rcases hx with hx | hx <;> rcases hy with hy | hy <;> rw [hx, hy] at h2 <;> rw [Bool.eq_iff_iff] <;> simp at h2 ⊢ <;> omega
theorem cls_all (a : Int) : cls a = 0 ∨ cls a = 1 ∨ cls a = 2 ∨ cls a = 3 := by unfold cls; split <;> split <;> simp
theorem cls_one {a : Int} (h : cls a = 1) : E a ≠ 2047 ∧ ∃ m : Nat, sg a = (m : Int) ∧ m ≠ 0 := by
  have hf := F_bd a
  unfold cls at h
  by_cases g : E a = 2047
  · rw [if_pos g] at h; split at h <;> omega
  · rw [if_neg g] at h
    refine ⟨g, (sg a).toNat, ?_, ?_⟩
    · unfold sg; split <;> omega
    · unfold sg
      by_cases g2 : E a = 0
      · rw [if_pos g2]
        have : F a ≠ 0 := fun e => by rw [if_pos ⟨g2, e⟩] at h; omega
        omega
      · rw [if_neg g2]; omega
theorem canon_self {m : Nat} (m0 : m ≠ 0) {z : Int} (hz : -1022 ≤ z) : canon m m z (z - 52) ∧ ∀ neg mode, z < 1024 → finR neg m m z (z - 52) mode = (sgn neg + (z + 1023) * 4503599627370496, 0) := by
  have hA : shA m (z - (z - 52)) = m * 4503599627370496 := by unfold shA; rw [show (z - (z - 52)).toNat = 52 by omega]
  have hB : shB m (z - (z - 52)) = m := by unfold shB; rw [show (-(z - (z - 52))).toNat = 0 by omega, Nat.pow_zero, Nat.mul_one]
  have hq : m * 4503599627370496 / m = 4503599627370496 := Nat.mul_div_cancel_left _ (by omega)
  have hr : m * 4503599627370496 % m = 0 := Nat.mul_mod_right _ _
  refine ⟨⟨by omega, ?_, Or.inl ?_⟩, fun neg mode h => ?_⟩
  · unfold Q; rw [hA, hB, hq]; omega
  · unfold Q; rw [hA, hB, hq]; omega
  · have hh : halfR m m (z - (z - 52)) = false := by unfold halfR; rw [hA, hB, hr, decide_eq_false (by omega)]
    have hs : restR m m (z - (z - 52)) = false := by unfold restR; rw [hA, hB, hr, decide_eq_false (by omega)]
    unfold finR
    rw [hA, hB, hq, hh, hs]
    have hu : ∀ q : Int, upP neg q false false mode = false := fun q => by unfold upP; repeat' split
                                                                           all_goals simp
    unfold fin res
    rw [hu, if_neg (show ¬ false = true by decide), if_neg (by omega), Bool.or_self, if_neg (show ¬ false = true by decide)]
    congr 1; omega
theorem div_fin {a b : Int} (a0 : 0 ≤ a) (a1 : a < 18446744073709551616) (b0 : 0 ≤ b) (b1 : b < 18446744073709551616) (hX : cls a = 1) (hY : cls b = 1) (mode : Int) {m k : Nat} (hm : sg a = (m : Int)) (hk : sg b = (k : Int)) (m0 : m ≠ 0) (k0 : k ≠ 0) :
    ∃ e, canon m k (ex a - ex b) e ∧ Ev (fun k => fdiv_Div.f k a b mode) (finR (decide (a ≥ 9223372036854775808) != decide (b ≥ 9223372036854775808)) m k (ex a - ex b) e mode) := by
  have A := class_ev a0 a1
  have B := class_ev b0 b1
  have hn := xor_neg a0 a1 b0 b1
  obtain ⟨e, hc, hq⟩ := quotient_ev a0 a1 b0 b1 (cls_one hX).1 (cls_one hY).1 hm hk m0 k0 (decide (a ≥ 9223372036854775808) != decide (b ≥ 9223372036854775808)) mode
  refine ⟨e, hc, ?_⟩
  unfold fdiv_Div.f
  rw [hn]
  rw [hX] at A
  rw [hY] at B
  refine Ev.bind A (Ev.bind B ?_)
  exact Ev.step (f := fun n => fdiv_Div.j1 n a b mode 1 1 (decide (a ≥ 9223372036854775808) != decide (b ≥ 9223372036854775808)) false) (fun n => rfl) (Ev.step (f := fun n => fdiv_Div.j2 n a b mode (decide (a ≥ 9223372036854775808) != decide (b ≥ 9223372036854775808)) false) (fun n => rfl) (Ev.step (f := fun n => (fdiv_quotient.f n a b (decide (a ≥ 9223372036854775808) != decide (b ≥ 9223372036854775808)) mode).bind fun bt150 => (some (bt150.1, bt150.2))) (fun n => rfl) (Ev.bind hq (Ev.now _))))
theorem alive_ev : Ev (fun k => vernierlaw09_alive.f k) true := by
  obtain ⟨e, hc, h⟩ := div_fin (a := 4607182418800017408) (b := 4611686018427387904) (by omega) (by omega) (by omega) (by omega) (by decide) (by decide) 0 (m := 4503599627370496) (k := 4503599627370496) (by decide) (by decide) (by omega) (by omega)
  have hz : ex 4607182418800017408 - ex 4611686018427387904 = -1 := by decide
  rw [hz] at h hc
  obtain ⟨c1, c2⟩ := canon_self (m := 4503599627370496) (by omega) (z := -1) (by omega)
  rw [canon_eq hc c1, c2 _ _ (by omega)] at h
  refine Ev.bind h ?_
  exact Ev.now _
theorem round_any (neg : Bool) {q : Nat} {e : Int} (_h0 : q ≠ 0) (h1 : q < 9007199254740992) (h2 : -1074 ≤ e) (h3 : e ≤ 971) (hc : 4503599627370496 ≤ q ∨ e = -1074) (mode : Int) :
    canon q 1 e e ∧ finR neg q 1 e e mode = (sgn neg + ((q : Int) + (e + 1074) * 4503599627370496), 0) := by
  have hA : shA q (e - e) = q := by unfold shA; rw [show (e - e).toNat = 0 by omega, Nat.pow_zero, Nat.mul_one]
  have hB : shB 1 (e - e) = 1 := by unfold shB; rw [show (-(e - e)).toNat = 0 by omega]
  refine ⟨⟨h2, by unfold Q; rw [hA, hB, Nat.div_one]; exact h1, by unfold Q; rw [hA, hB, Nat.div_one]; exact hc⟩, ?_⟩
  have hh : halfR q 1 (e - e) = false := by unfold halfR; rw [hA, hB, Nat.mod_one]; rfl
  have hs : restR q 1 (e - e) = false := by unfold restR; rw [hA, hB, Nat.mod_one]; rfl
  unfold finR
  rw [hA, hB, Nat.div_one, hh, hs]
  have hu : ∀ q : Int, upP neg q false false mode = false := fun q => by unfold upP; repeat' split
                                                                         all_goals simp
  unfold fin res
  rw [hu, if_neg (show ¬ false = true by decide), if_neg (by omega), Bool.or_self, if_neg (show ¬ false = true by decide), Int.add_zero]
theorem FdivSelf : vernierlaw09_FdivSelf.Pure := by
  intro a mode ha hmode
  obtain ⟨a0, a1⟩ := u64_bd ha
  refine Ev.rounds ?_
  refine Ev.bind alive_ev ?_
  simp only [if_true]
  refine Ev.bind (rclass_ev a0 a1) ?_
  by_cases hX : cls a = 1
  · simp only [if_pos hX]
    obtain ⟨hE, m, hm, m0⟩ := cls_one hX
    obtain ⟨p1, p2, p3, p4, p5, p6⟩ := parts_of a0 a1 hE
    obtain ⟨e, hc, h⟩ := div_fin a0 a1 a0 a1 hX hX mode hm hm m0 m0
    rw [Int.sub_self] at h hc
    obtain ⟨c1, c2⟩ := canon_self m0 (z := 0) (by omega)
    rw [canon_eq hc c1, c2 _ _ (by omega), bne_self_eq_false] at h
    obtain ⟨f, hd, g⟩ := div_fin a0 a1 (b := 4607182418800017408) (by omega) (by omega) hX (by decide) mode (k := 4503599627370496) hm (by decide) m0 (by omega)
    have V := dn_same m 1 (ex a) 52
    rw [show 1 * 2 ^ 52 = 4503599627370496 by decide] at V
    rw [show ex a - ex 4607182418800017408 = ex a + ((52 : Nat) : Int) by rw [show ex 4607182418800017408 = -52 by decide]; omega] at hd g
    obtain ⟨r1, r2⟩ := round_any (neg a) (q := m) (e := ex a) m0 (by omega) p4 p5 (by omega) mode
    rw [canon_eq ((V.2 f).1 hd) r1, V.1] at g
    rw [show (decide (a ≥ 9223372036854775808) != decide ((4607182418800017408 : Int) ≥ 9223372036854775808)) = neg a by rw [show decide ((4607182418800017408 : Int) ≥ 9223372036854775808) = false by decide, Bool.bne_false]; rfl, r2, ← hm, ← p1] at g
    refine Ev.bind h (Ev.bind g ?_)
    exact Ev.congr (fun k => by simp [sgn]) (Ev.now _)
  · simp only [if_neg hX]; exact Ev.now _
end Go.Proofs.Ytklkebbdjppnkaa.Pure
