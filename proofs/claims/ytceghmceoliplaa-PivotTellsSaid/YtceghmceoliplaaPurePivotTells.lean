/- PivotTells: which row has a column's greatest number, from a row on, and a matrix of which two rows changed places, are as the page says. For every matrix, column and rows. -/
import Derived.Test.YtceghmceoliplaaPPivotTellsx2
import Derived.Test.YtceghmceoliplaaPPivotTellsx3
import Derived.Test.YtceghmceoliplaaPPivotTellsx4
import Derived.Laws.BitsLemmas
import Derived.Laws.BitsAllLaws
namespace Go.Proofs.Ytceghmceoliplaa.Pure
open Go.RowKit Go.Proofs.Ytceghmceoliplaa.PPivotTells Go.Proofs.YtceghmceoliplaaW.PrintWords Go.Proofs.YtceghmceoliplaaW.PrintLast Go.Proofs.YtceghmceoliplaaW.PrintMore
-- Whole numbers that fit; places in a matrix; lists made of a function.
theorem w64 {x : Int} (h0 : -9223372036854775808 ≤ x) (h1 : x < 9223372036854775808) : wrap64 x = x := by unfold wrap64; omega
theorem wN (n : Nat) (h : n < 9223372036854775808) : wrap64 (n : Int) = (n : Int) := w64 (by omega) (by omega)
theorem wmul (a b : Nat) (h : a * b < 9223372036854775808) : wrap64 ((a : Int) * (b : Int)) = ((a * b : Nat) : Int) := by rw [← Int.natCast_mul]; exact wN _ h
theorem wadd (a b : Nat) (h : a + b < 9223372036854775808) : wrap64 ((a : Int) + (b : Int)) = ((a + b : Nat) : Int) := by rw [← Int.natCast_add]; exact wN _ h
theorem wsucc (a : Nat) (h : a + 1 < 9223372036854775808) : wrap64 ((a : Int) + 1) = ((a + 1 : Nat) : Int) := wadd a 1 h
theorem place_lt {i j r c : Nat} (hi : i < r) (hj : j < c) : i * c + j < r * c := by
  have : (i + 1) * c ≤ r * c := Nat.mul_le_mul_right c hi
  rw [Nat.add_mul, Nat.one_mul] at this; omega
theorem place_div {i j c : Nat} (hj : j < c) : (i * c + j) / c = i := by
  rw [Nat.mul_comm, Nat.mul_add_div (by omega), Nat.div_eq_of_lt hj, Nat.add_zero]
theorem place_mod {i j c : Nat} (hj : j < c) : (i * c + j) % c = j := by
  rw [Nat.mul_comm, Nat.mul_add_mod, Nat.mod_eq_of_lt hj]
theorem place_of (k c : Nat) : k / c * c + k % c = k := by rw [Nat.mul_comm]; exact Nat.div_add_mod k c
theorem div_lt_of {k r c : Nat} (h : k < r * c) : k / c < r := Nat.div_lt_of_lt_mul (by rw [Nat.mul_comm]; exact h)
theorem mod_lt_of {k r c : Nat} (h : k < r * c) : k % c < c := Nat.mod_lt _ (by rcases Nat.eq_zero_or_pos c with rfl | h' <;> omega)
def mk (n : Nat) (f : Nat → Int) : List Int := (List.range n).map f
theorem mk_len (n : Nat) (f : Nat → Int) : (mk n f).length = n := by simp [mk]
theorem mk_get (n : Nat) (f : Nat → Int) (k : Nat) (h : k < n) : (mk n f).getD k 0 = f k := by
  simp [mk, List.getD_eq_getElem?_getD, h]
theorem rd_mk (n : Nat) (f : Nat → Int) (k : Nat) (h : k < n) : rd (mk n f) (k : Int) = f k := mk_get n f k h
theorem rd_nat (l : List Int) (k : Nat) : rd l (k : Int) = l.getD k 0 := rfl
theorem mk_congr {n : Nat} {f g : Nat → Int} (h : ∀ k, k < n → f k = g k) : mk n f = mk n g := List.map_congr_left (fun k hk => h k (List.mem_range.1 hk))
theorem mk_set (n : Nat) (f : Nat → Int) (p : Nat) (v : Int) : (mk n f).set p v = mk n (fun k => if k = p then v else f k) := by
  apply List.ext_getElem
  · simp [mk]
  · intro i h1 h2
    simp only [mk, List.length_set, List.length_map, List.length_range] at h1
    rw [List.getElem_set]
    simp only [mk, List.getElem_map, List.getElem_range]
    by_cases e : p = i
    · subst e; simp
    · rw [if_neg e, if_neg (fun h => e h.symm)]
theorem mk_const (n : Nat) (v : Int) : List.replicate n v = mk n (fun _ => v) := by
  apply List.ext_getElem
  · simp [mk]
  · intro i h1 h2; simp [mk]
theorem mk_self (l : List Int) : mk l.length (fun k => l.getD k 0) = l := by
  apply List.ext_getElem
  · simp [mk]
  · intro i h1 h2
    simp only [mk, List.getElem_map, List.getElem_range]
    rw [List.getD_eq_getElem?_getD, List.getElem?_eq_getElem h2]; rfl
theorem mk_eq {n : Nat} {f : Nat → Int} {l : List Int} (hl : l.length = n) (h : ∀ k, k < n → l.getD k 0 = f k) : l = mk n f := by
  subst hl
  exact (mk_self l).symm.trans (mk_congr h)
theorem Ev.no {α : Type} {g : Nat → Option α} {r : α} (h : ∀ k, g (k + 1) = some r) : Ev g r := Ev.step (f := fun _ => some r) h (Ev.now r)
-- Words of 64 bits: masks and joins.
theorem wraps_u64 (n : Int) (h₀ : 0 ≤ n) (h₁ : n < 2 ^ 64) : IntKind.u64.wrap n = n := by rw [IntKind.wrap_u64]; omega
theorem mask64 (i : Nat) (hi : i ≤ 64) (x : Int) (h0 : 0 ≤ x) (h1 : x < 18446744073709551616) : Go.bits .and .u64 x (2 ^ i - 1) = x % 2 ^ i :=
  bits_mask .u64 64 (by decide) wraps_u64 i hi x h0 (by omega)
theorem and2047 {x : Int} (h0 : 0 ≤ x) (h1 : x < 18446744073709551616) : Go.bits .and .u64 x 2047 = x % 2048 := by have := mask64 11 (by omega) x h0 h1; simpa using this
theorem and52 {x : Int} (h0 : 0 ≤ x) (h1 : x < 18446744073709551616) : Go.bits .and .u64 x 4503599627370495 = x % 4503599627370496 := by have := mask64 52 (by omega) x h0 h1; simpa using this
theorem and1_u64 {x : Int} (h0 : 0 ≤ x) (h1 : x < 18446744073709551616) : Go.bits .and .u64 x 1 = x % 2 := by have := mask64 1 (by omega) x h0 h1; simpa using this
theorem and63 {x : Int} (h0 : 0 ≤ x) (h1 : x < 18446744073709551616) : Go.bits .and .u64 x 9223372036854775808 = x / 9223372036854775808 * 9223372036854775808 := by
  obtain ⟨a, rfl⟩ := Int.eq_ofNat_of_zero_le h0
  have h := u64_and_nat a 9223372036854775808 (by omega) (by omega)
  rw [show ((9223372036854775808 : Nat) : Int) = 9223372036854775808 from rfl] at h
  rw [h, nat_hi64_63]; omega
theorem or64_join (i : Nat) (y x : Int) (hy : 0 ≤ y) (hy' : y < 2 ^ i) (hx : 0 ≤ x) (hx' : x % 2 ^ i = 0) (h1 : y < 18446744073709551616) (h2 : x < 18446744073709551616) : Go.bits .or .u64 y x = y + x ∧ Go.bits .or .u64 x y = x + y := by
  have h := bits_join .u64 64 (by decide) wraps_u64 i x y hx hx' (by omega) hy hy' (by omega)
  refine ⟨?_, h⟩
  obtain ⟨a, rfl⟩ := Int.eq_ofNat_of_zero_le hy
  obtain ⟨b, rfl⟩ := Int.eq_ofNat_of_zero_le hx
  rw [u64_or_nat b a (by omega) (by omega)] at h
  rw [u64_or_nat a b (by omega) (by omega), Nat.or_comm, h]; omega
theorem or52 {y : Int} (h0 : 0 ≤ y) (h1 : y < 4503599627370496) : Go.bits .or .u64 y 4503599627370496 = y + 4503599627370496 :=
  (or64_join 52 y 4503599627370496 h0 (by omega) (by omega) (by decide) (by omega) (by omega)).1
-- A binary64 number's parts, and what the printed functions of them come to.
def E (a : Int) : Int := a / 4503599627370496 % 2048
def F (a : Int) : Int := a % 4503599627370496
def cls (a : Int) : Int := if E a = 2047 then (if F a = 0 then 2 else 3) else if E a = 0 ∧ F a = 0 then 0 else 1
def sg (a : Int) : Int := if E a = 0 then F a else F a + 4503599627370496
def ex (a : Int) : Int := if E a = 0 then -1074 else E a - 1075
def neg (a : Int) : Bool := decide (a ≥ 9223372036854775808)
theorem E_bd (a : Int) : 0 ≤ E a ∧ E a < 2048 := by unfold E; omega
theorem F_bd (a : Int) : 0 ≤ F a ∧ F a < 4503599627370496 := by unfold F; omega
theorem u64_bd {a : Int} (h : (Lit.int .u64 a).wf = true) : 0 ≤ a ∧ a < 18446744073709551616 := by
  have := (by simpa [Lit.wf, IntKind.min, IntKind.max, IntKind.bits, IntKind.signed] using h : 0 ≤ a ∧ a ≤ 18446744073709551615); omega
theorem i64_bd {a : Int} (h : (Lit.int .i64 a).wf = true) : -9223372036854775808 ≤ a ∧ a < 9223372036854775808 := by
  have := (by simpa [Lit.wf, IntKind.min, IntKind.max, IntKind.bits, IntKind.signed] using h : -9223372036854775808 ≤ a ∧ a ≤ 9223372036854775807); omega
theorem expo {a : Int} (h0 : 0 ≤ a) (h1 : a < 18446744073709551616) : Go.bits .and .u64 (a / 4503599627370496) 2047 = E a := and2047 (by omega) (by omega)
theorem refE {a : Int} (h0 : 0 ≤ a) (h1 : a < 18446744073709551616) : Int.tmod (IntKind.u64.wrap (Int.tdiv a 4503599627370496)) 2048 = E a := by
  rw [Int.tdiv_eq_ediv_of_nonneg h0, wraps_u64 _ (by omega) (by omega), Int.tmod_eq_emod_of_nonneg (by omega)]; rfl
theorem refF {a : Int} (h0 : 0 ≤ a) : Int.tmod a 4503599627370496 = F a := by rw [Int.tmod_eq_emod_of_nonneg h0]; rfl
theorem class_ev {a : Int} (h0 : 0 ≤ a) (h1 : a < 18446744073709551616) : Ev (fun k => parts_Class.f k a) (cls a) := by
  have hf := F_bd a
  have key : ∀ x, Ev (fun k => parts_Class.j0 k (E a) (F a) x) (if x = true then 3 else if E a = 2047 then 2 else if E a = 0 ∧ F a = 0 then 0 else 1) := fun x => by
    refine Ev.no (fun k => ?_)
    simp only [parts_Class.j0]
    by_cases hx : x = true
    · rw [if_pos hx, if_pos hx]
    rw [if_neg hx, if_neg hx]
    by_cases h2 : E a = 2047
    · rw [if_pos h2, if_pos h2]
    rw [if_neg h2, if_neg h2]
    by_cases h3 : E a = 0
    · rw [if_pos h3]
      by_cases h4 : F a = 0
      · rw [if_pos h4, if_pos ⟨h3, h4⟩]
      · rw [if_neg h4, if_neg (fun h => h4 h.2)]
    · rw [if_neg h3, if_neg (fun h => h3 h.1)]
  refine Ev.congr (f := fun k => parts_Class.j0 k (E a) (F a) (decide (E a = 2047 ∧ F a ≠ 0))) (fun k => ?_) ?_
  · unfold parts_Class.f
    rw [expo h0 h1, and52 h0 h1]
    by_cases h2 : E a = 2047
    · rw [if_pos h2]; congr 1
      rw [Bool.eq_iff_iff]; simp [h2]; rfl
    · rw [if_neg h2]; simp [h2]; rfl
  · have := key (decide (E a = 2047 ∧ F a ≠ 0))
    unfold cls
    by_cases h2 : E a = 2047
    · by_cases h3 : F a = 0
      · simp [h2, h3] at this ⊢; exact this
      · simp [h2, h3] at this ⊢; exact this
    · simp [h2] at this ⊢; exact this
-- What the printed functions of the package shape come to.
def okMat (m n : Int) (l : List Int) : Prop := 1 ≤ m ∧ m ≤ 64 ∧ 1 ≤ n ∧ n ≤ 64 ∧ (l.length : Int) = m * n
instance (m n : Int) (l : List Int) : Decidable (okMat m n l) := by unfold okMat; infer_instance
theorem prod_le {m n : Int} (h0 : 1 ≤ m) (h1 : m ≤ 64) (h2 : 1 ≤ n) (h3 : n ≤ 64) : 1 ≤ m * n ∧ m * n ≤ 4096 := by
  constructor
  · have := Int.mul_le_mul h0 h2 (by omega) (by omega); omega
  · have := Int.mul_le_mul h1 h3 (by omega) (by omega); omega
theorem wprod {m n : Int} (h0 : 1 ≤ m) (h1 : m ≤ 64) (h2 : 1 ≤ n) (h3 : n ≤ 64) : wrap64 (m * n) = m * n := by
  have := prod_le h0 h1 h2 h3; exact w64 (by omega) (by omega)
theorem side_eq (n : Int) : shape_side.f n = some (decide (1 ≤ n ∧ n ≤ 64)) := by
  unfold shape_side.f
  by_cases h : n ≥ 1
  · rw [if_pos h]; congr 1; rw [decide_eq_decide]; omega
  · rw [if_neg h]; congr 1; rw [eq_comm, decide_eq_false_iff_not]; omega
theorem check_eq (m n : Int) (l : List Int) : shape_Check.f m n l = some (if okMat m n l then 0 else 11) := by
  unfold shape_Check.f
  rw [side_eq, Option.bind_some]
  by_cases h1 : 1 ≤ m ∧ m ≤ 64
  · rw [decide_eq_true h1, if_pos rfl, side_eq, Option.bind_some]
    by_cases h2 : 1 ≤ n ∧ n ≤ 64
    · rw [decide_eq_true h2, if_pos rfl, wprod h1.1 h1.2 h2.1 h2.2]
      by_cases h3 : (l.length : Int) = m * n
      · rw [if_pos h3, if_pos (show okMat m n l from ⟨h1.1, h1.2, h2.1, h2.2, h3⟩)]
      · rw [if_neg h3, if_neg (fun h : okMat m n l => h3 h.2.2.2.2)]
    · rw [decide_eq_false h2, if_neg (by decide), if_neg (fun h : okMat m n l => h2 ⟨h.2.2.1, h.2.2.2.1⟩)]
  · rw [decide_eq_false h1, if_neg (by decide), if_neg (fun h : okMat m n l => h1 ⟨h.1, h.2.1⟩)]
theorem clr63 {a : Int} (a0 : 0 ≤ a) (a1 : a < 18446744073709551616) : Go.bits .andNot .u64 a 9223372036854775808 = a % 9223372036854775808 := by
  obtain ⟨x, rfl⟩ := Int.eq_ofNat_of_zero_le a0
  have h := u64_andNot_nat x 9223372036854775808 (by omega) (by omega)
  rw [show ((9223372036854775808 : Nat) : Int) = 9223372036854775808 from rfl] at h
  rw [h, show (18446744073709551615 - 9223372036854775808 : Nat) = 2 ^ 63 - 1 by decide, Nat.and_two_pow_sub_one_eq_mod]
  omega
-- Words of 64 bits.
def U64s (l : List Int) : Prop := ∀ x ∈ l, 0 ≤ x ∧ x < 18446744073709551616
theorem u64s_of {l : List Int} (h : ∀ x ∈ l, (Lit.int .u64 x).wf = true) : U64s l := fun x hx => u64_bd (h x hx)
theorem u64s_get {l : List Int} (h : U64s l) (i : Nat) : 0 ≤ l.getD i 0 ∧ l.getD i 0 < 18446744073709551616 := by
  rw [List.getD_eq_getElem?_getD]
  by_cases g : i < l.length
  · rw [List.getElem?_eq_getElem g]; exact h _ (List.getElem_mem g)
  · rw [List.getElem?_eq_none (by omega)]; simp
-- vec.Largest: where the greatest number stands.
def absF (a : Int) : Int := if cls a = 3 then 9221120237041090560 else a % 9223372036854775808
theorem abs_ev {a : Int} (h0 : 0 ≤ a) (h1 : a < 18446744073709551616) : Ev (fun k => fcmp_Abs.f k a) (absF a) := by
  unfold fcmp_Abs.f fcmp_is.f
  refine Ev.bind (Ev.bind (class_ev h0 h1) (Ev.now _)) ?_
  rw [clr63 h0 h1]
  unfold absF
  by_cases g : cls a = 3
  · rw [g]; simp only [if_true, beq_self_eq_true]; exact Ev.now _
  · rw [beq_eq_false_iff_ne.mpr g]; simp only [if_neg g, if_neg (show ¬ (false = true) by decide)]; exact Ev.now _
/-- One step: place, greatest so far, place and number that come. -/
def lgS (s : Int × Int) (i : Nat) (a : Int) : Int × Int := if absF a = 9221120237041090560 then s else if s.1 < 0 then ((i : Int), absF a) else if s.2 < absF a then ((i : Int), absF a) else s
def lgT : List Int → Nat → Int × Int → Int × Int
  | [], _, s => s
  | a :: l, i, s => lgT l (i + 1) (lgS s i a)
theorem largest_l {l : List Int} (hl : U64s l) (hm : l.length < 9223372036854775807) (d : Nat) : ∀ (i : Nat) (s : Int × Int), i + d = l.length → Ev (fun k => vec_Largest.l0 k s.1 s.2 l (l.length : Int) i) (lgT (l.drop i) i s) := by
  induction d with
  | zero =>
    intro i s hi
    refine Ev.no (fun k => ?_)
    simp only [vec_Largest.l0]
    rw [if_neg (by omega), List.drop_of_length_le (by omega)]; rfl
  | succ d ih =>
    intro i s hi
    have h1 : i < l.length := by omega
    have e1 : l.drop i = l.getD i 0 :: l.drop (i + 1) := by rw [List.getD_eq_getElem?_getD, List.getElem?_eq_getElem h1, List.drop_eq_getElem_cons h1]; rfl
    obtain ⟨b0, b1⟩ := u64s_get hl i
    refine Ev.step (f := fun k => (fcmp_Abs.f k (l.getD i 0)).bind fun t107 => (if t107 = 9221120237041090560 then (vec_Largest.l0 k s.1 s.2 l (l.length : Int) ((i + 1 : Nat) : Int)) else (if s.1 < 0 then (vec_Largest.l0 k i t107 l (l.length : Int) ((i + 1 : Nat) : Int)) else (if s.2 < t107 then (vec_Largest.l0 k i t107 l (l.length : Int) ((i + 1 : Nat) : Int)) else (vec_Largest.l0 k s.1 s.2 l (l.length : Int) ((i + 1 : Nat) : Int)))))) (fun k => ?_) (Ev.bind (abs_ev b0 b1) ?_)
    · simp only [vec_Largest.l0]
      rw [if_pos (by omega), if_pos (by omega), if_pos (by omega), rd_nat, wsucc _ (by omega)]
    · rw [e1]
      show Ev _ (lgT (l.drop (i + 1)) (i + 1) (lgS s i (l.getD i 0)))
      have key := ih (i + 1) (lgS s i (l.getD i 0)) (by omega)
      unfold lgS at key ⊢
      by_cases g1 : absF (l.getD i 0) = 9221120237041090560
      · simp only [if_pos g1] at key ⊢; exact key
      · simp only [if_neg g1] at key ⊢
        by_cases g2 : s.1 < 0
        · simp only [if_pos g2] at key ⊢; exact key
        · simp only [if_neg g2] at key ⊢
          by_cases g3 : s.2 < absF (l.getD i 0)
          · simp only [if_pos g3] at key ⊢; exact key
          · simp only [if_neg g3] at key ⊢; exact key
theorem largest_ev {l : List Int} (hl : U64s l) (hm : l.length < 9223372036854775807) : Ev (fun k => vec_Largest.f k l) (lgT l 0 (-1, 0)) := largest_l hl hm l.length 0 (-1, 0) (by omega)
/-- The place is one of the row's, or -1. -/
theorem lgT_bd : ∀ (l : List Int) (i : Nat) (s : Int × Int), -1 ≤ s.1 → s.1 < i → -1 ≤ (lgT l i s).1 ∧ (lgT l i s).1 < i + l.length
  | [], i, s, h0, h1 => by
    show -1 ≤ s.1 ∧ s.1 < (i : Int) + (([] : List Int).length : Int)
    exact ⟨h0, by simpa using h1⟩
  | a :: l, i, s, h0, h1 => by
    have h := lgT_bd l (i + 1) (lgS s i a) (by unfold lgS; (repeat' split) <;> (try dsimp only) <;> omega) (by unfold lgS; (repeat' split) <;> (try dsimp only) <;> omega)
    refine ⟨h.1, ?_⟩
    have h2 := h.2
    rw [List.length_cons]
    show (lgT l (i + 1) (lgS s i a)).1 < _
    omega
-- pivot.Search: the column, and its greatest number's row.
def colP (l : List Int) (n col f t : Nat) : List Int := mk t (fun i => l.getD ((f + i) * n + col) 0)
theorem mkSnoc (n : Nat) (f : Nat → Int) : mk n f ++ [f n] = mk (n + 1) f := by
  unfold mk; rw [List.range_succ, List.map_append]; rfl
theorem u64s_col {l : List Int} (hl : U64s l) (n col f t : Nat) : U64s (colP l n col f t) := by
  intro x hx
  unfold colP mk at hx
  obtain ⟨i, _, rfl⟩ := List.mem_map.1 hx
  exact u64s_get hl _
theorem search_l {l : List Int} {m n : Nat} (hl : U64s l) (hlen : l.length = m * n) (hm : m ≤ 64) (hn : n ≤ 64) {col f : Nat} (hcol : col < n) (d : Nat) : ∀ t : Nat, f + t + d = m →
    Ev (fun k => pivot_Search.l0 k col f (colP l n col f t) ((f + t : Nat) : Int) m n l) (wrap64 (f + mx (lgT (colP l n col f (t + d)) 0 (-1, 0)).1 0), 0) := by
  have hb : m * n ≤ 64 * 64 := Nat.mul_le_mul hm hn
  induction d with
  | zero =>
    intro t ht
    refine Ev.step (f := fun k => (vec_Largest.f k (colP l n col f t)).bind fun bt116 => (some (wrap64 ((f : Int) + (mx bt116.1 0)), 0))) (fun k => ?_) (Ev.bind (largest_ev (u64s_col hl _ _ _ _) (by unfold colP; rw [mk_len]; omega)) (Ev.now _))
    simp only [pivot_Search.l0]; rw [if_neg (by omega)]
  | succ d ih =>
    intro t ht
    have hp := place_lt (i := f + t) (j := col) (r := m) (c := n) (by omega) hcol
    refine Ev.step (f := fun k => pivot_Search.l0 k col f (colP l n col f (t + 1)) ((f + (t + 1) : Nat) : Int) m n l) (fun k => ?_) (by have := ih (t + 1) (by omega); rwa [show t + (d + 1) = t + 1 + d by omega])
    simp only [pivot_Search.l0]
    rw [if_pos (by omega), wmul _ _ (by omega), wadd _ _ (by omega), if_pos (by omega), if_pos (by omega), if_pos (by unfold colP; rw [mk_len]; omega), wsucc _ (by omega), rd_nat]
    rw [show colP l n col f t ++ [l.getD ((f + t) * n + col) 0] = colP l n col f (t + 1) from mkSnoc t (fun i => l.getD ((f + i) * n + col) 0)]
    rfl
theorem row_eq (m n : Int) (l : List Int) (i : Int) : pivot_row.f m n l i = some (decide (0 ≤ i ∧ i < m)) := by
  unfold pivot_row.f
  by_cases h : i ≥ 0
  · rw [if_pos h]; congr 1; rw [decide_eq_decide]; omega
  · rw [if_neg h]; congr 1; rw [eq_comm, decide_eq_false_iff_not]; omega
/-- What Search tells: of any matrix, column and row. -/
def searchV (m n : Int) (l : List Int) (col f : Int) : Int × Int :=
  if okMat m n l then (if 0 ≤ f ∧ f < m ∧ 0 ≤ col ∧ col < n then (f + mx (lgT (colP l n.toNat col.toNat f.toNat (m.toNat - f.toNat)) 0 (-1, 0)).1 0, 0) else (0, 4)) else (0, 11)
theorem search_ev (m n : Int) {l : List Int} (hl : U64s l) (col f : Int) : Ev (fun k => pivot_Search.f k m n l col f) (searchV m n l col f) := by
  unfold pivot_Search.f searchV
  rw [check_eq]
  simp only [Option.bind_some]
  by_cases h : okMat m n l
  · simp only [if_pos h, if_true]
    rw [row_eq]
    simp only [Option.bind_some]
    have J : ∀ x : Bool, x = (!decide (0 ≤ f ∧ f < m ∧ 0 ≤ col ∧ col < n)) → Ev (fun k => pivot_Search.j0 k col f x m n l) (if 0 ≤ f ∧ f < m ∧ 0 ≤ col ∧ col < n then (f + mx (lgT (colP l n.toNat col.toNat f.toNat (m.toNat - f.toNat)) 0 (-1, 0)).1 0, 0) else (0, 4)) := by
      intro x hx
      by_cases g : 0 ≤ f ∧ f < m ∧ 0 ≤ col ∧ col < n
      · rw [decide_eq_true g] at hx
        subst hx
        rw [if_pos g]
        obtain ⟨g1, g2, g3, g4⟩ := g
        obtain ⟨h1, h2, h3, h4, h5⟩ := h
        obtain ⟨M, rfl⟩ := Int.eq_ofNat_of_zero_le (show 0 ≤ m by omega)
        obtain ⟨N, rfl⟩ := Int.eq_ofNat_of_zero_le (show 0 ≤ n by omega)
        obtain ⟨F, rfl⟩ := Int.eq_ofNat_of_zero_le g1
        obtain ⟨C, rfl⟩ := Int.eq_ofNat_of_zero_le g3
        have hlen : l.length = M * N := by exact_mod_cast h5
        have S := search_l hl hlen (by omega) (by omega) (col := C) (f := F) (by omega) (M - F) 0 (by omega)
        rw [Nat.zero_add, Nat.add_zero] at S
        have bd := lgT_bd (colP l N C F (M - F)) 0 (-1, 0) (by decide) (by decide)
        rw [show (colP l N C F (M - F)).length = M - F from mk_len _ _] at bd
        have hw : wrap64 ((F : Int) + mx (lgT (colP l N C F (M - F)) 0 (-1, 0)).1 0) = (F : Int) + mx (lgT (colP l N C F (M - F)) 0 (-1, 0)).1 0 := by
          generalize (lgT (colP l N C F (M - F)) 0 (-1, 0)).1 = z at *
          apply w64 <;> unfold mx <;> split <;> omega
        rw [hw] at S
        simp only [Int.toNat_natCast]
        refine Ev.step (f := fun k => pivot_Search.l0 k (C : Int) (F : Int) ([] : List Int) (F : Int) (M : Int) (N : Int) l) (fun k => ?_) S
        simp only [pivot_Search.j0]; rw [if_neg (by decide)]
      · rw [decide_eq_false g] at hx
        subst hx
        rw [if_neg g]
        refine Ev.no (fun k => ?_)
        simp only [pivot_Search.j0]; rw [if_pos (by decide)]
    by_cases g1 : 0 ≤ f ∧ f < m
    · simp only [decide_eq_true g1, if_true]
      by_cases g2 : col < 0
      · simp only [if_pos g2]
        exact J true (by rw [decide_eq_false (by omega)]; rfl)
      · simp only [if_neg g2]
        refine J _ ?_
        by_cases g3 : col ≥ n
        · rw [decide_eq_true g3, decide_eq_false (by omega)]; rfl
        · rw [decide_eq_false g3, decide_eq_true (by omega)]; rfl
    · simp only [decide_eq_false g1, if_neg (show ¬ (false = true) by decide)]
      exact J true (by rw [decide_eq_false (by omega)]; rfl)
  · simp only [if_neg h, if_neg (show ¬ (11 : Int) = 0 by decide)]; exact Ev.now _
-- Permutations as lists: what is one, and its parity.
theorem pig : ∀ (n : Nat) (l : List Int), l.Nodup → (∀ x ∈ l, 0 ≤ x ∧ x < (n : Int)) → l.length ≤ n ∧ (l.length = n → ∀ v : Int, 0 ≤ v → v < (n : Int) → v ∈ l)
  | 0, l, _, h => by
    cases l with
    | nil => exact ⟨Nat.le_refl _, fun _ v h0 h1 => by omega⟩
    | cons x l => have := h x List.mem_cons_self; omega
  | n + 1, l, hn, h => by
    by_cases hm : (n : Int) ∈ l
    · have hl : (l.erase (n : Int)).length = l.length - 1 := List.length_erase_of_mem hm
      have hp : 0 < l.length := List.length_pos_of_mem hm
      have I := pig n (l.erase (n : Int)) (hn.erase _) (fun x hx => by
        have h1 := (hn.mem_erase_iff).1 hx
        have h2 := h x h1.2
        have h3 := h1.1
        omega)
      refine ⟨by omega, fun he v h0 h1 => ?_⟩
      by_cases g : v = (n : Int)
      · rw [g]; exact hm
      · exact List.mem_of_mem_erase (I.2 (by omega) v h0 (by omega))
    · have I := pig n l hn (fun x hx => by
        have h2 := h x hx
        have h3 : x ≠ (n : Int) := fun e => hm (e ▸ hx)
        omega)
      exact ⟨by omega, fun he => by omega⟩
def isP (n : Nat) (l : List Int) : Prop := l.length = n ∧ l.Nodup ∧ ∀ x ∈ l, 0 ≤ x ∧ x < (n : Int)
theorem isP_get {n : Nat} {l : List Int} (h : isP n l) {i : Nat} (hi : i < n) : 0 ≤ l.getD i 0 ∧ l.getD i 0 < (n : Int) := by
  have hi' : i < l.length := by rw [h.1]; exact hi
  have : l.getD i 0 ∈ l := by rw [List.getD_eq_getElem?_getD, List.getElem?_eq_getElem hi']; exact List.getElem_mem hi'
  exact h.2.2 _ this
theorem isP_inj {n : Nat} {l : List Int} (h : isP n l) {i j : Nat} (hi : i < n) (hj : j < n) (e : l.getD i 0 = l.getD j 0) : i = j := by
  have hi' : i < l.length := by rw [h.1]; exact hi
  have hj' : j < l.length := by rw [h.1]; exact hj
  rw [List.getD_eq_getElem?_getD, List.getD_eq_getElem?_getD, List.getElem?_eq_getElem hi', List.getElem?_eq_getElem hj'] at e
  have P := List.pairwise_iff_getElem.1 h.2.1
  apply Classical.byContradiction
  intro hne
  rcases Nat.lt_or_gt_of_ne hne with g | g
  · exact P i j hi' hj' g e
  · exact P j i hj' hi' g e.symm
theorem isP_sur {n : Nat} {l : List Int} (h : isP n l) {v : Nat} (hv : v < n) : ∃ i, i < n ∧ l.getD i 0 = (v : Int) := by
  have := (pig n l h.2.1 h.2.2).2 h.1 v (by omega) (by omega)
  obtain ⟨i, hi, e⟩ := List.mem_iff_getElem.1 this
  refine ⟨i, by rw [← h.1]; exact hi, ?_⟩
  rw [List.getD_eq_getElem?_getD, List.getElem?_eq_getElem hi]; exact e
theorem isP_of {n : Nat} {l : List Int} (hl : l.length = n) (hb : ∀ i, i < n → 0 ≤ l.getD i 0 ∧ l.getD i 0 < (n : Int)) (hi : ∀ i j, i < n → j < n → l.getD i 0 = l.getD j 0 → i = j) : isP n l := by
  refine ⟨hl, ?_, fun x hx => ?_⟩
  · refine List.pairwise_iff_getElem.2 (fun i j h1 h2 hij e => ?_)
    have := hi i j (by omega) (by omega) (by rw [List.getD_eq_getElem?_getD, List.getD_eq_getElem?_getD, List.getElem?_eq_getElem h1, List.getElem?_eq_getElem h2, e])
    omega
  · obtain ⟨i, h1, e⟩ := List.mem_iff_getElem.1 hx
    have := hb i (by omega)
    rw [List.getD_eq_getElem?_getD, List.getElem?_eq_getElem h1] at this
    rw [← e]; exact this
theorem ext_getD {n : Nat} {a b : List Int} (ha : a.length = n) (hb : b.length = n) (h : ∀ i, i < n → a.getD i 0 = b.getD i 0) : a = b := by
  apply List.ext_getElem (by omega)
  intro i h1 h2
  have := h i (by omega)
  rw [List.getD_eq_getElem?_getD, List.getD_eq_getElem?_getD, List.getElem?_eq_getElem h1, List.getElem?_eq_getElem h2] at this
  exact this
theorem getD_set (l : List Int) (i : Nat) (v : Int) (j : Nat) (hi : i < l.length) : (l.set i v).getD j 0 = if j = i then v else l.getD j 0 := by
  rw [List.getD_eq_getElem?_getD, List.getElem?_set, List.getD_eq_getElem?_getD]
  by_cases g : i = j
  · subst g; rw [if_pos rfl, if_pos hi, if_pos rfl]; rfl
  · rw [if_neg g, if_neg (fun e => g e.symm)]
/-- Two places changed. -/
def sw (l : List Int) (i j : Nat) : List Int := (l.set i (l.getD j 0)).set j (l.getD i 0)
theorem sw_len (l : List Int) (i j : Nat) : (sw l i j).length = l.length := by unfold sw; rw [List.length_set, List.length_set]
theorem sw_get (l : List Int) {i j : Nat} (hi : i < l.length) (hj : j < l.length) (t : Nat) : (sw l i j).getD t 0 = if t = j then l.getD i 0 else if t = i then l.getD j 0 else l.getD t 0 := by
  unfold sw
  rw [getD_set _ _ _ _ (by rw [List.length_set]; exact hj), getD_set _ _ _ _ hi]
theorem sw_at (l : List Int) {i j : Nat} (hi : i < l.length) (hj : j < l.length) (t : Nat) : (sw l i j).getD t 0 = l.getD (if t = j then i else if t = i then j else t) 0 := by
  rw [sw_get l hi hj]
  split
  · rfl
  · split <;> rfl
theorem sw_P {n : Nat} {l : List Int} (h : isP n l) {i j : Nat} (hi : i < n) (hj : j < n) : isP n (sw l i j) := by
  have hl := h.1
  refine isP_of (by rw [sw_len, hl]) (fun t ht => ?_) (fun s t hs ht e => ?_)
  · rw [sw_at l (by omega) (by omega)]
    exact isP_get h (by split; exact hi; split; exact hj; exact ht)
  · rw [sw_at l (by omega) (by omega), sw_at l (by omega) (by omega)] at e
    have := isP_inj h (by split; exact hi; split; exact hj; exact hs) (by split; exact hi; split; exact hj; exact ht) e
    split at this <;> split at this <;> (repeat' split at this) <;> omega
theorem sw_same (l : List Int) {i : Nat} (hi : i < l.length) : sw l i i = l := by
  refine ext_getD (n := l.length) (sw_len _ _ _) rfl (fun t ht => ?_)
  rw [sw_get l hi hi]
  split
  · rename_i h; rw [h]
  · rfl
theorem sw_comm (l : List Int) {i j : Nat} (hi : i < l.length) (hj : j < l.length) : sw l i j = sw l j i := by
  refine ext_getD (n := l.length) (sw_len _ _ _) (sw_len _ _ _) (fun t ht => ?_)
  rw [sw_get l hi hj, sw_get l hj hi]
  by_cases a : t = j <;> by_cases b : t = i <;> simp [a, b] <;> (try omega)
  · intro h; rw [← a, b] at *
-- parity
def sg2 (x y : Int) : Bool := decide (y < x)
def cn (x : Int) : List Int → Bool
  | [] => false
  | y :: l => sg2 x y ^^ cn x l
def nc (y : Int) : List Int → Bool
  | [] => false
  | b :: l => sg2 b y ^^ nc y l
def cross : List Int → List Int → Bool
  | [], _ => false
  | a :: A, B => cn a B ^^ cross A B
def pty : List Int → Bool
  | [] => false
  | x :: l => cn x l ^^ pty l
def par : List Int → Bool
  | [] => false
  | _ :: l => !par l
theorem cn_append (x : Int) : ∀ A B : List Int, cn x (A ++ B) = (cn x A ^^ cn x B)
  | [], B => by simp [cn]
  | a :: A, B => by simp only [List.cons_append, cn]; rw [cn_append x A B, Bool.xor_assoc]
theorem cross_cons (y : Int) (C : List Int) : ∀ A : List Int, cross A (y :: C) = (nc y A ^^ cross A C)
  | [] => rfl
  | a :: A => by
    simp only [cross, cn, nc]; rw [cross_cons y C A]
    generalize sg2 a y = p; generalize cn a C = q; generalize nc y A = r; generalize cross A C = s
    cases p <;> cases q <;> cases r <;> cases s <;> rfl
theorem cross_append (B C : List Int) : ∀ A : List Int, cross A (B ++ C) = (cross A B ^^ cross A C)
  | [] => rfl
  | a :: A => by
    simp only [cross]; rw [cross_append B C A, cn_append]
    generalize cn a B = p; generalize cn a C = q; generalize cross A B = r; generalize cross A C = s
    cases p <;> cases q <;> cases r <;> cases s <;> rfl
theorem pty_append (B : List Int) : ∀ A : List Int, pty (A ++ B) = ((pty A ^^ cross A B) ^^ pty B)
  | [] => by simp [pty, cross]
  | a :: A => by
    simp only [List.cons_append, pty, cross]; rw [pty_append B A, cn_append]
    generalize cn a A = p; generalize cn a B = q; generalize pty A = r; generalize cross A B = s; generalize pty B = t
    cases p <;> cases q <;> cases r <;> cases s <;> cases t <;> rfl
theorem cn_nc (x : Int) : ∀ B : List Int, x ∉ B → nc x B = (cn x B ^^ par B)
  | [], _ => rfl
  | b :: B, h => by
    simp only [nc, cn, par]; rw [cn_nc x B (fun hm => h (List.mem_cons_of_mem _ hm))]
    have : sg2 b x = !sg2 x b := by
      have hne : x ≠ b := fun e => h (e ▸ List.mem_cons_self)
      unfold sg2
      by_cases g : x < b
      · rw [decide_eq_true g, decide_eq_false (by omega)]; rfl
      · rw [decide_eq_false g, decide_eq_true (by omega)]; rfl
    rw [this]
    generalize sg2 x b = p; generalize cn x B = q; generalize par B = r
    cases p <;> cases q <;> cases r <;> rfl
theorem pty_flip (A B C : List Int) (x y : Int) (hxy : x ≠ y) (hx : x ∉ B) (hy : y ∉ B) : pty (A ++ y :: (B ++ x :: C)) = !pty (A ++ x :: (B ++ y :: C)) := by
  have e1 : ∀ u v : Int, pty (A ++ u :: (B ++ v :: C)) = ((pty A ^^ (nc u A ^^ (cross A B ^^ (nc v A ^^ cross A C)))) ^^ ((cn u B ^^ (sg2 u v ^^ cn u C)) ^^ ((pty B ^^ (nc v B ^^ cross B C)) ^^ (cn v C ^^ pty C)))) := fun u v => by
    rw [pty_append, cross_cons, cross_append, cross_cons]
    simp only [pty]
    rw [pty_append, cross_cons, cn_append]
    simp only [cn, pty]
  rw [e1, e1, cn_nc x B hx, cn_nc y B hy]
  have : sg2 y x = !sg2 x y := by
    unfold sg2
    by_cases g : y < x
    · rw [decide_eq_true g, decide_eq_false (by omega)]; rfl
    · rw [decide_eq_false g, decide_eq_true (by omega)]; rfl
  rw [this]
  have key : ∀ a b c d e f g h i j k l m n : Bool, ((a ^^ (b ^^ (c ^^ (d ^^ e)))) ^^ ((f ^^ (!g ^^ h)) ^^ ((i ^^ ((j ^^ k) ^^ l)) ^^ (m ^^ n)))) = !((a ^^ (d ^^ (c ^^ (b ^^ e)))) ^^ ((j ^^ (g ^^ m)) ^^ ((i ^^ ((f ^^ k) ^^ l)) ^^ (h ^^ n)))) := by
    decide +kernel
  exact key _ _ _ _ _ _ _ _ _ _ _ _ _ _
theorem split_at (l : List Int) (i : Nat) (h : i < l.length) : ∃ A x C, l = A ++ x :: C ∧ A.length = i := by
  refine ⟨l.take i, l[i], l.drop (i + 1), ?_, by rw [List.length_take]; omega⟩
  rw [← List.drop_eq_getElem_cons h, List.take_append_drop]
theorem sw_split (A B C : List Int) (x y : Int) : sw (A ++ x :: (B ++ y :: C)) A.length (A.length + 1 + B.length) = A ++ y :: (B ++ x :: C) := by
  have e1 : (A ++ x :: (B ++ y :: C)).getD A.length 0 = x := by simp [List.getD_eq_getElem?_getD]
  have e2 : (A ++ x :: (B ++ y :: C)).getD (A.length + 1 + B.length) 0 = y := by
    rw [List.getD_eq_getElem?_getD, List.getElem?_append_right (by omega), show A.length + 1 + B.length - A.length = B.length + 1 by omega, List.getElem?_cons_succ, List.getElem?_append_right (Nat.le_refl _), Nat.sub_self]; rfl
  unfold sw
  rw [e1, e2, List.set_append_right _ _ (Nat.le_refl _), Nat.sub_self, List.set_cons_zero, List.set_append_right _ _ (by omega), show A.length + 1 + B.length - A.length = B.length + 1 by omega, List.set_cons_succ, List.set_append_right _ _ (Nat.le_refl _), Nat.sub_self, List.set_cons_zero]
theorem pty_sw {n : Nat} {l : List Int} (h : isP n l) {i j : Nat} (hi : i < n) (hj : j < n) (hne : i ≠ j) : pty (sw l i j) = !pty l := by
  have main : ∀ i j : Nat, i < j → j < n → pty (sw l i j) = !pty l := by
    intro i j hij hj
    obtain ⟨A, x, D, hl, hA⟩ := split_at l i (by rw [h.1]; omega)
    have hD : j - i - 1 < D.length := by
      have := congrArg List.length hl
      rw [List.length_append, List.length_cons, h.1] at this; omega
    obtain ⟨B, y, C, hD2, hB⟩ := split_at D (j - i - 1) hD
    subst hD2
    have hj2 : j = A.length + 1 + B.length := by omega
    have hnd := h.2.1
    rw [hl] at hnd
    have h1 := (List.nodup_append.1 hnd).2.1
    have h2 := List.nodup_cons.1 h1
    have h3 := List.nodup_append.1 h2.2
    have hxB : x ∉ B := fun hm => h2.1 (List.mem_append_left _ hm)
    have hxy : x ≠ y := fun e => h2.1 (List.mem_append_right _ (e ▸ List.mem_cons_self))
    have hyB : y ∉ B := fun hm => h3.2.2 y hm y List.mem_cons_self rfl
    rw [hj2, ← hA, hl, sw_split]
    exact pty_flip A B C x y hxy hxB hyB
  have hl := h.1
  rcases Nat.lt_or_gt_of_ne hne with g | g
  · exact main i j g hj
  · rw [sw_comm l (by omega) (by omega)]; exact main j i g hi
theorem cn_less (x : Int) : ∀ l : List Int, (∀ y ∈ l, x < y) → cn x l = false
  | [], _ => rfl
  | y :: l, h => by
    have h1 := h y List.mem_cons_self
    unfold cn sg2
    rw [decide_eq_false (by omega), cn_less x l (fun z hz => h z (List.mem_cons_of_mem _ hz))]; rfl
theorem pty_sorted : ∀ l : List Int, l.Pairwise (· < ·) → pty l = false
  | [], _ => rfl
  | x :: l, h => by
    have h1 := List.pairwise_cons.1 h
    unfold pty
    rw [cn_less x l h1.1, pty_sorted l h1.2]; rfl
def idL (n : Nat) : List Int := (List.range n).map (fun (i : Nat) => (i : Int))
theorem idL_len (n : Nat) : (idL n).length = n := by simp [idL]
theorem idL_get {n i : Nat} (h : i < n) : (idL n).getD i 0 = (i : Int) := by simp [idL, List.getD_eq_getElem?_getD, h]
theorem idL_P (n : Nat) : isP n (idL n) := isP_of (idL_len n) (fun i hi => by rw [idL_get hi]; omega) (fun i j hi hj e => by rw [idL_get hi, idL_get hj] at e; omega)
theorem idL_pty (n : Nat) : pty (idL n) = false := by
  refine pty_sorted _ ?_
  unfold idL
  rw [List.pairwise_map]
  exact List.pairwise_lt_range.imp (fun h => by omega)
-- how many places are not fixed
def cnt (f : Nat → Bool) : Nat → Nat
  | 0 => 0
  | n + 1 => cnt f n + (if f n then 1 else 0)
theorem cnt_le (f g : Nat → Bool) : ∀ n, (∀ t, t < n → g t = true → f t = true) → cnt g n ≤ cnt f n
  | 0, _ => Nat.le_refl _
  | n + 1, h => by
    have I := cnt_le f g n (fun t ht => h t (by omega))
    have := h n (by omega)
    unfold cnt
    by_cases a : g n = true
    · rw [if_pos a, if_pos (this a)]; omega
    · rw [if_neg a]; omega
theorem cnt_lt (f g : Nat → Bool) : ∀ n, (∀ t, t < n → g t = true → f t = true) → ∀ s, s < n → f s = true → g s = false → cnt g n < cnt f n
  | 0, _, s, hs, _, _ => by omega
  | n + 1, h, s, hs, hf, hg => by
    have := h n (by omega)
    unfold cnt
    by_cases e : s = n
    · subst e
      have I := cnt_le f g s (fun t ht => h t (by omega))
      rw [hf, hg, if_pos rfl, if_neg (by decide)]; omega
    · have I := cnt_lt f g n (fun t ht => h t (by omega)) s (by omega) hf hg
      by_cases a : g n = true
      · rw [if_pos a, if_pos (this a)]; omega
      · rw [if_neg a]; omega
def nf (n : Nat) (l : List Int) : Nat := cnt (fun t => decide (l.getD t 0 ≠ (t : Int))) n
theorem nf_sw {n : Nat} {l : List Int} (h : isP n l) {i k : Nat} (hi : i < n) (hk : l.getD i 0 = (k : Int)) (hne : k ≠ i) : k < n ∧ nf n (sw l i k) < nf n l := by
  have hb := isP_get h hi
  have hl := h.1
  have hkn : k < n := by omega
  refine ⟨hkn, cnt_lt _ _ n (fun t ht hg => ?_) k hkn ?_ ?_⟩
  · rw [decide_eq_true_iff] at hg ⊢
    rw [sw_get l (by omega) (by omega)] at hg
    by_cases a : t = k
    · rw [if_pos a, hk, a] at hg; exact absurd rfl hg
    · rw [if_neg a] at hg
      by_cases b : t = i
      · rw [b, hk]; omega
      · rw [if_neg b] at hg; exact hg
  · rw [decide_eq_true_iff]
    intro e
    have := isP_inj h hkn hi (by rw [e, hk]); omega
  · rw [decide_eq_false_iff_not, Classical.not_not, sw_get l (by omega) (by omega), if_pos rfl, hk]
theorem nodup_perm : ∀ (m l : List Int), m.Nodup → (∀ x ∈ m, x ∈ l) → m.length = l.length → m.Perm l
  | [], l, _, _, h => by
    have : l = [] := List.eq_nil_of_length_eq_zero h.symm
    subst this; exact List.Perm.refl _
  | x :: m, l, hn, hs, h => by
    have h1 := List.nodup_cons.1 hn
    have hx := hs x List.mem_cons_self
    have hl : (l.erase x).length = l.length - 1 := List.length_erase_of_mem hx
    rw [List.length_cons] at h
    have I := nodup_perm m (l.erase x) h1.2 (fun y hy => (List.mem_erase_of_ne (fun e : y = x => h1.1 (e ▸ hy))).2 (hs y (List.mem_cons_of_mem _ hy))) (by omega)
    exact (List.Perm.cons x I).trans (List.perm_cons_erase hx).symm
theorem isP_of_mem {n : Nat} {l : List Int} (hl : l.length = n) (h : ∀ v : Nat, v < n → (v : Int) ∈ l) : isP n l := by
  have P := nodup_perm (idL n) l (idL_P n).2.1 (fun x hx => by
    have hb := (idL_P n).2.2 x hx
    have := h x.toNat (by omega)
    rwa [show ((x.toNat : Nat) : Int) = x by omega] at this) (by rw [idL_len, hl])
  exact ⟨hl, P.nodup_iff.1 (idL_P n).2.1, fun x hx => (idL_P n).2.2 x (P.mem_iff.2 hx)⟩
-- pivot.Swap: two rows, plainly.
theorem place_inj {r s a b n : Nat} (ha : a < n) (hb : b < n) (h : r * n + a = s * n + b) : r = s ∧ a = b := by
  have h1 := place_div (i := r) (j := a) ha
  have h2 := place_div (i := s) (j := b) hb
  have h3 := place_mod (i := r) (j := a) ha
  have h4 := place_mod (i := s) (j := b) hb
  rw [h] at h1 h3
  exact ⟨h1.symm.trans h2, h3.symm.trans h4⟩
def rowOf (I K r : Nat) : Nat := if r = I then K else if r = K then I else r
theorem rowOf_lt {M I K r : Nat} (hI : I < M) (hK : K < M) (hr : r < M) : rowOf I K r < M := by unfold rowOf; split; exact hK; split; exact hI; exact hr
theorem pvRows_get {l : List Int} {M N I K : Nat} (hl : l.length = M * N) (hI : I < M) (hK : K < M) : ∀ t, t ≤ N → ∀ r c, r < M → c < N →
    (pvRows l N I K t).getD (r * N + c) 0 = if c < t then l.getD (rowOf I K r * N + c) 0 else l.getD (r * N + c) 0
  | 0, _, r, c, _, _ => by rw [if_neg (by omega)]; rfl
  | t + 1, ht, r, c, hr, hc => by
    have hp := place_lt (i := I) (j := t) (r := M) (c := N) hI (by omega)
    have hq := place_lt (i := K) (j := t) (r := M) (c := N) hK (by omega)
    have hlen := pvRows_len l N I K t
    show (sw (pvRows l N I K t) (I * N + t) (K * N + t)).getD (r * N + c) 0 = _
    rw [sw_get _ (by omega) (by omega)]
    by_cases e1 : r * N + c = K * N + t
    · obtain ⟨rfl, rfl⟩ := place_inj hc (by omega) e1
      rw [if_pos rfl, if_pos (by omega), pvRows_get hl hI hK c (by omega) I c hI hc, if_neg (by omega)]
      unfold rowOf
      by_cases e2 : r = I
      · rw [if_pos e2, e2]
      · rw [if_neg e2, if_pos rfl]
    · rw [if_neg e1]
      by_cases e2 : r * N + c = I * N + t
      · obtain ⟨rfl, rfl⟩ := place_inj hc (by omega) e2
        rw [if_pos rfl, if_pos (by omega), pvRows_get hl hI hK c (by omega) K c hK hc, if_neg (by omega)]
        unfold rowOf
        rw [if_pos rfl]
      · rw [if_neg e2, pvRows_get hl hI hK t (by omega) r c hr hc]
        by_cases e3 : c < t
        · rw [if_pos e3, if_pos (by omega)]
        · rw [if_neg e3]
          by_cases e4 : c = t
          · subst e4
            rw [if_pos (by omega)]
            unfold rowOf
            rw [if_neg (fun h => e2 (by rw [h])), if_neg (fun h => e1 (by rw [h]))]
          · rw [if_neg (by omega)]
theorem pvRows_all {l : List Int} {M N I K r c : Nat} (hl : l.length = M * N) (hI : I < M) (hK : K < M) (hr : r < M) (hc : c < N) : (pvRows l N I K N).getD (r * N + c) 0 = l.getD (rowOf I K r * N + c) 0 := by
  rw [pvRows_get hl hI hK N (Nat.le_refl _) r c hr hc, if_pos hc]
def swapV (m n : Int) (l : List Int) (i k : Int) : Int × Int × List Int × Int :=
  if okMat m n l then (if 0 ≤ i ∧ i < m ∧ 0 ≤ k ∧ k < m then (m, n, pvRows l n.toNat i.toNat k.toNat n.toNat, 0) else (0, 0, [], 4)) else (0, 0, [], 11)
theorem swap_eq (m n : Int) (l : List Int) (i k : Int) : pivot_Swap.f m n l i k = some (swapV m n l i k) := by
  unfold pivot_Swap.f swapV
  rw [check_eq]
  simp only [Option.bind_some]
  by_cases h : okMat m n l
  · simp only [if_pos h, if_true]
    rw [row_eq, row_eq]
    simp only [Option.bind_some]
    have hl : l.length < 17592186044416 := by
      have := h.2.2.2.2; have := prod_le h.1 h.2.1 h.2.2.1 h.2.2.2.1; omega
    unfold slices_Clone_uint64_uint64.f
    rw [if_pos hl]
    simp only [Option.bind_some]
    by_cases a : 0 ≤ i ∧ i < m
    · by_cases b : 0 ≤ k ∧ k < m
      · simp only [decide_eq_true a, decide_eq_true b, if_true]
        rw [if_pos ⟨a.1, a.2, b.1, b.2⟩]
      · simp only [decide_eq_true a, decide_eq_false b, if_true, if_neg (show ¬ (false = true) by decide)]
        rw [if_neg (fun h => b ⟨h.2.2.1, h.2.2.2⟩)]
    · simp only [decide_eq_false a, if_neg (show ¬ (false = true) by decide)]
      rw [if_neg (fun h => a ⟨h.1, h.2.1⟩)]
  · simp only [if_neg h, if_neg (show ¬ (11 : Int) = 0 by decide)]
theorem tellB_in {l : List Int} {M N I K : Nat} (hl : l.length = M * N) (hM : M ≤ 64) (hN : N ≤ 64) (hI : I < M) (hK : K < M) {i : Nat} (hi : i < M)
    (next : Ev (fun k => vernierlaw24_PivotTellsB.l0 k I K 0 ((i + 1 : Nat) : Int) M N l M N (pvRows l N I K N)) true) (d : Nat) : ∀ j : Nat, j + d = N →
    Ev (fun k => vernierlaw24_PivotTellsB.l1 k I K 0 i (rowOf I K i : Nat) j M N l M N (pvRows l N I K N)) true := by
  have hb : M * N ≤ 64 * 64 := Nat.mul_le_mul hM hN
  have hlen := pvRows_len l N I K N
  have hro := rowOf_lt hI hK hi
  induction d with
  | zero =>
    intro j hj
    refine Ev.step (fun k => ?_) next
    simp only [vernierlaw24_PivotTellsB.l1]; rw [if_neg (by omega), wsucc i (by omega)]
  | succ d ih =>
    intro j hj
    have h1 := place_lt (i := i) (j := j) (r := M) (c := N) hi (by omega)
    have h2 := place_lt (i := rowOf I K i) (j := j) (r := M) (c := N) hro (by omega)
    refine Ev.step (f := fun k => vernierlaw24_PivotTellsB.l1 k I K 0 i (rowOf I K i : Nat) ((j + 1 : Nat) : Int) M N l M N (pvRows l N I K N)) (fun k => ?_) (ih (j + 1) (by omega))
    simp only [vernierlaw24_PivotTellsB.l1]
    rw [if_pos (by omega), wmul i N (by omega), wadd _ _ (by omega), if_pos (by omega), if_pos (by omega), wmul _ N (by omega), wadd _ _ (by omega), if_pos (by omega), if_pos (by omega), rd_nat, rd_nat, pvRows_all hl hI hK hi (by omega), if_pos rfl, wsucc j (by omega)]
theorem tellB_out {l : List Int} {M N I K : Nat} (hl : l.length = M * N) (hM : M ≤ 64) (hN : N ≤ 64) (hI : I < M) (hK : K < M) (d : Nat) : ∀ i : Nat, i + d = M →
    Ev (fun k => vernierlaw24_PivotTellsB.l0 k I K 0 i M N l M N (pvRows l N I K N)) true := by
  induction d with
  | zero =>
    intro i hi
    refine Ev.no (fun k => ?_)
    simp only [vernierlaw24_PivotTellsB.l0]; rw [if_neg (by omega), if_pos trivial, if_pos trivial, beq_self_eq_true]
  | succ d ih =>
    intro i hi
    have T := tellB_in hl hM hN hI hK (i := i) (by omega) (ih (i + 1) (by omega)) N 0 (by omega)
    refine Ev.step (f := fun k => vernierlaw24_PivotTellsB.j3 k I K 0 i (rowOf I K i : Nat) M N l M N (pvRows l N I K N)) (fun k => ?_) (Ev.step (f := fun k => vernierlaw24_PivotTellsB.l1 k I K 0 i (rowOf I K i : Nat) ((0 : Nat) : Int) M N l M N (pvRows l N I K N)) (fun k => by simp only [vernierlaw24_PivotTellsB.j3]; rfl) T)
    simp only [vernierlaw24_PivotTellsB.l0]
    rw [if_pos (by omega)]
    unfold rowOf
    by_cases a : i = I
    · rw [if_pos (by omega), if_pos a]
    · rw [if_neg (by omega), if_neg a]
      by_cases b : i = K
      · rw [if_pos (by omega), if_pos b]
      · rw [if_neg (by omega), if_neg b]
theorem tellB_tail (m n : Int) {l : List Int} (h : okMat m n l) (f q : Int) (x : Bool) (hx : x = !decide (0 ≤ f ∧ f < m ∧ 0 ≤ q ∧ q < m)) :
    Ev (fun k => vernierlaw24_PivotTellsB.j1 k f q (swapV m n l f q).2.2.2 x m n l (swapV m n l f q).1 (swapV m n l f q).2.1 (swapV m n l f q).2.2.1) true := by
  unfold swapV
  rw [if_pos h]
  by_cases g : 0 ≤ f ∧ f < m ∧ 0 ≤ q ∧ q < m
  · rw [if_pos g]
    rw [decide_eq_true g] at hx
    subst hx
    obtain ⟨g1, g2, g3, g4⟩ := g
    obtain ⟨h1, h2, h3, h4, h5⟩ := h
    obtain ⟨M, rfl⟩ := Int.eq_ofNat_of_zero_le (show 0 ≤ m by omega)
    obtain ⟨N, rfl⟩ := Int.eq_ofNat_of_zero_le (show 0 ≤ n by omega)
    obtain ⟨I, rfl⟩ := Int.eq_ofNat_of_zero_le g1
    obtain ⟨K, rfl⟩ := Int.eq_ofNat_of_zero_le g3
    have hl : l.length = M * N := by exact_mod_cast h5
    simp only [Int.toNat_natCast]
    refine Ev.step (f := fun k => vernierlaw24_PivotTellsB.l0 k I K 0 ((0 : Nat) : Int) M N l M N (pvRows l N I K N)) (fun k => ?_) (tellB_out hl (by omega) (by omega) (by omega) (by omega) M 0 (by omega))
    simp only [vernierlaw24_PivotTellsB.j1]
    rw [if_neg (by decide), if_pos (by rw [pvRows_len])]; rfl
  · rw [if_neg g]
    rw [decide_eq_false g] at hx
    subst hx
    refine Ev.no (fun k => ?_)
    simp only [vernierlaw24_PivotTellsB.j1]
    rw [if_pos (by decide), if_pos trivial]; rfl
theorem tellB_test (m n : Int) {l : List Int} (h : okMat m n l) (f q : Int) : Ev (fun k => if f < 0 then (vernierlaw24_PivotTellsB.j1 k f q (swapV m n l f q).2.2.2 true m n l (swapV m n l f q).1 (swapV m n l f q).2.1 (swapV m n l f q).2.2.1) else (if f ≥ m then (vernierlaw24_PivotTellsB.j1 k f q (swapV m n l f q).2.2.2 true m n l (swapV m n l f q).1 (swapV m n l f q).2.1 (swapV m n l f q).2.2.1) else (if q < 0 then (vernierlaw24_PivotTellsB.j1 k f q (swapV m n l f q).2.2.2 true m n l (swapV m n l f q).1 (swapV m n l f q).2.1 (swapV m n l f q).2.2.1) else (vernierlaw24_PivotTellsB.j1 k f q (swapV m n l f q).2.2.2 (decide (q ≥ m)) m n l (swapV m n l f q).1 (swapV m n l f q).2.1 (swapV m n l f q).2.2.1)))) true := by
  have J := tellB_tail m n h f q
  by_cases a : f < 0
  · simp only [if_pos a]; exact J true (by rw [decide_eq_false (by omega)]; rfl)
  · simp only [if_neg a]
    by_cases b : f ≥ m
    · simp only [if_pos b]; exact J true (by rw [decide_eq_false (by omega)]; rfl)
    · simp only [if_neg b]
      by_cases c : q < 0
      · simp only [if_pos c]; exact J true (by rw [decide_eq_false (by omega)]; rfl)
      · simp only [if_neg c]
        refine J (decide (q ≥ m)) ?_
        by_cases e : q ≥ m
        · rw [decide_eq_true e, decide_eq_false (by omega)]; rfl
        · rw [decide_eq_false e, decide_eq_true (by omega)]; rfl
theorem tellC_in {l : List Int} {M N I K : Nat} (hl : l.length = M * N) (hM : M ≤ 64) (hN : N ≤ 64) (hI : I < M) (hK : K < M) {i : Nat} (hi : i < M)
    (next : Ev (fun k => vernierlaw24_PivotTellsC.l1 k I K 0 ((i + 1 : Nat) : Int) M N l M N (pvRows l N I K N)) true) (d : Nat) : ∀ j : Nat, j + d = N →
    Ev (fun k => vernierlaw24_PivotTellsC.l2 k I K 0 i (rowOf I K i : Nat) j M N l M N (pvRows l N I K N)) true := by
  have hb : M * N ≤ 64 * 64 := Nat.mul_le_mul hM hN
  have hlen := pvRows_len l N I K N
  have hro := rowOf_lt hI hK hi
  induction d with
  | zero =>
    intro j hj
    refine Ev.step (fun k => ?_) next
    simp only [vernierlaw24_PivotTellsC.l2]; rw [if_neg (by omega), wsucc i (by omega)]
  | succ d ih =>
    intro j hj
    have h1 := place_lt (i := i) (j := j) (r := M) (c := N) hi (by omega)
    have h2 := place_lt (i := rowOf I K i) (j := j) (r := M) (c := N) hro (by omega)
    refine Ev.step (f := fun k => vernierlaw24_PivotTellsC.l2 k I K 0 i (rowOf I K i : Nat) ((j + 1 : Nat) : Int) M N l M N (pvRows l N I K N)) (fun k => ?_) (ih (j + 1) (by omega))
    simp only [vernierlaw24_PivotTellsC.l2]
    rw [if_pos (by omega), wmul i N (by omega), wadd _ _ (by omega), if_pos (by omega), if_pos (by omega), wmul _ N (by omega), wadd _ _ (by omega), if_pos (by omega), if_pos (by omega), rd_nat, rd_nat, pvRows_all hl hI hK hi (by omega), if_pos rfl, wsucc j (by omega)]
theorem tellC_out {l : List Int} {M N I K : Nat} (hl : l.length = M * N) (hM : M ≤ 64) (hN : N ≤ 64) (hI : I < M) (hK : K < M) (d : Nat) : ∀ i : Nat, i + d = M →
    Ev (fun k => vernierlaw24_PivotTellsC.l1 k I K 0 i M N l M N (pvRows l N I K N)) true := by
  induction d with
  | zero =>
    intro i hi
    refine Ev.no (fun k => ?_)
    simp only [vernierlaw24_PivotTellsC.l1]; rw [if_neg (by omega), if_pos trivial, if_pos trivial, beq_self_eq_true]
  | succ d ih =>
    intro i hi
    have T := tellC_in hl hM hN hI hK (i := i) (by omega) (ih (i + 1) (by omega)) N 0 (by omega)
    refine Ev.step (f := fun k => vernierlaw24_PivotTellsC.j4 k I K 0 i (rowOf I K i : Nat) M N l M N (pvRows l N I K N)) (fun k => ?_) (Ev.step (f := fun k => vernierlaw24_PivotTellsC.l2 k I K 0 i (rowOf I K i : Nat) ((0 : Nat) : Int) M N l M N (pvRows l N I K N)) (fun k => by simp only [vernierlaw24_PivotTellsC.j4]; rfl) T)
    simp only [vernierlaw24_PivotTellsC.l1]
    rw [if_pos (by omega)]
    unfold rowOf
    by_cases a : i = I
    · rw [if_pos (by omega), if_pos a]
    · rw [if_neg (by omega), if_neg a]
      by_cases b : i = K
      · rw [if_pos (by omega), if_pos b]
      · rw [if_neg (by omega), if_neg b]
theorem tellC_tail (m n : Int) {l : List Int} (h : okMat m n l) (f q : Int) (x : Bool) (hx : x = !decide (0 ≤ f ∧ f < m ∧ 0 ≤ q ∧ q < m)) :
    Ev (fun k => vernierlaw24_PivotTellsC.j2 k f q (swapV m n l f q).2.2.2 x m n l (swapV m n l f q).1 (swapV m n l f q).2.1 (swapV m n l f q).2.2.1) true := by
  unfold swapV
  rw [if_pos h]
  by_cases g : 0 ≤ f ∧ f < m ∧ 0 ≤ q ∧ q < m
  · rw [if_pos g]
    rw [decide_eq_true g] at hx
    subst hx
    obtain ⟨g1, g2, g3, g4⟩ := g
    obtain ⟨h1, h2, h3, h4, h5⟩ := h
    obtain ⟨M, rfl⟩ := Int.eq_ofNat_of_zero_le (show 0 ≤ m by omega)
    obtain ⟨N, rfl⟩ := Int.eq_ofNat_of_zero_le (show 0 ≤ n by omega)
    obtain ⟨I, rfl⟩ := Int.eq_ofNat_of_zero_le g1
    obtain ⟨K, rfl⟩ := Int.eq_ofNat_of_zero_le g3
    have hl : l.length = M * N := by exact_mod_cast h5
    simp only [Int.toNat_natCast]
    refine Ev.step (f := fun k => vernierlaw24_PivotTellsC.l1 k I K 0 ((0 : Nat) : Int) M N l M N (pvRows l N I K N)) (fun k => ?_) (tellC_out hl (by omega) (by omega) (by omega) (by omega) M 0 (by omega))
    simp only [vernierlaw24_PivotTellsC.j2]
    rw [if_neg (by decide), if_pos (by rw [pvRows_len])]; rfl
  · rw [if_neg g]
    rw [decide_eq_false g] at hx
    subst hx
    refine Ev.no (fun k => ?_)
    simp only [vernierlaw24_PivotTellsC.j2]
    rw [if_pos (by decide), if_pos trivial]; rfl
theorem tellC_test (m n : Int) {l : List Int} (h : okMat m n l) (f q : Int) : Ev (fun k => if f < 0 then (vernierlaw24_PivotTellsC.j2 k f q (swapV m n l f q).2.2.2 true m n l (swapV m n l f q).1 (swapV m n l f q).2.1 (swapV m n l f q).2.2.1) else (if f ≥ m then (vernierlaw24_PivotTellsC.j2 k f q (swapV m n l f q).2.2.2 true m n l (swapV m n l f q).1 (swapV m n l f q).2.1 (swapV m n l f q).2.2.1) else (if q < 0 then (vernierlaw24_PivotTellsC.j2 k f q (swapV m n l f q).2.2.2 true m n l (swapV m n l f q).1 (swapV m n l f q).2.1 (swapV m n l f q).2.2.1) else (vernierlaw24_PivotTellsC.j2 k f q (swapV m n l f q).2.2.2 (decide (q ≥ m)) m n l (swapV m n l f q).1 (swapV m n l f q).2.1 (swapV m n l f q).2.2.1)))) true := by
  have J := tellC_tail m n h f q
  by_cases a : f < 0
  · simp only [if_pos a]; exact J true (by rw [decide_eq_false (by omega)]; rfl)
  · simp only [if_neg a]
    by_cases b : f ≥ m
    · simp only [if_pos b]; exact J true (by rw [decide_eq_false (by omega)]; rfl)
    · simp only [if_neg b]
      by_cases c : q < 0
      · simp only [if_pos c]; exact J true (by rw [decide_eq_false (by omega)]; rfl)
      · simp only [if_neg c]
        refine J (decide (q ≥ m)) ?_
        by_cases e : q ≥ m
        · rw [decide_eq_true e, decide_eq_false (by omega)]; rfl
        · rw [decide_eq_false e, decide_eq_true (by omega)]; rfl
theorem alive24 : Ev (fun k => vernierlaw24_alive.f k) true := Ev.of vernierlaw24_alive.mono (k := 20) (by decide +kernel)
theorem tellsA (m n : Int) {l : List Int} (hl : U64s l) (h : ¬ okMat m n l) (col f q : Int) : Ev (fun k => vernierlaw24_PivotTellsA.f k m n l col f q) true := by
  unfold vernierlaw24_PivotTellsA.f
  refine Ev.bind alive24 ?_
  simp only [if_true]
  refine Ev.bind (search_ev m n hl col f) ?_
  rw [swap_eq, check_eq, if_neg h]
  unfold searchV swapV
  simp only [if_neg h, Option.bind_some, if_neg (show ¬ (11 : Int) = 0 by decide), if_true]
  exact Ev.congr (fun k => by simp) (Ev.now true)
theorem tellsB (m n : Int) {l : List Int} (hl : U64s l) (h : okMat m n l) (col f q : Int) (hr : ¬ (0 ≤ f ∧ f < m ∧ 0 ≤ col ∧ col < n)) : Ev (fun k => vernierlaw24_PivotTellsB.f k m n l col f q) true := by
  have S := search_ev m n hl col f
  unfold searchV at S
  rw [if_pos h, if_neg hr] at S
  have J : Ev (fun k => vernierlaw24_PivotTellsB.j0 k f q 0 4 (swapV m n l f q).2.2.2 true m n l (swapV m n l f q).1 (swapV m n l f q).2.1 (swapV m n l f q).2.2.1) true :=
    Ev.step (fun k => by simp only [vernierlaw24_PivotTellsB.j0]; rw [if_pos trivial, if_pos trivial, if_pos trivial]) (tellB_test m n h f q)
  unfold vernierlaw24_PivotTellsB.f
  refine Ev.bind alive24 ?_
  simp only [if_true]
  refine Ev.bind S ?_
  rw [swap_eq, check_eq, if_pos h]
  simp only [Option.bind_some, if_true]
  by_cases a : f < 0
  · simp only [if_pos a]; exact J
  · simp only [if_neg a]
    by_cases b : f ≥ m
    · simp only [if_pos b]; exact J
    · simp only [if_neg b]
      by_cases c : col < 0
      · simp only [if_pos c]; exact J
      · simp only [if_neg c]; rw [decide_eq_true (show col ≥ n by omega)]; exact J
theorem col_l {l : List Int} {M N : Nat} (hl : U64s l) (h : okMat M N l) (hlen : l.length = M * N) {C F : Nat} (hC : C < N) (q e : Int) (v : Int) (hv : v = wrap64 (F + mx (lgT (colP l N C F (M - F)) 0 (-1, 0)).1 0)) (he : e = 0) (d : Nat) : ∀ t : Nat, F + t + d = M →
    Ev (fun k => vernierlaw24_PivotTellsC.l0 k C F q v e (swapV M N l F q).2.2.2 (colP l N C F t) ((F + t : Nat) : Int) M N l (swapV M N l F q).1 (swapV M N l F q).2.1 (swapV M N l F q).2.2.1) true := by
  have hM : M ≤ 64 := by have := h.2.1; omega
  have hN : N ≤ 64 := by have := h.2.2.2.1; omega
  have hb : M * N ≤ 64 * 64 := Nat.mul_le_mul hM hN
  induction d with
  | zero =>
    intro t ht
    obtain rfl : t = M - F := by omega
    have L := largest_ev (u64s_col hl N C F (M - F)) (by unfold colP; rw [mk_len]; omega)
    have T := tellC_test (M : Int) (N : Int) h (F : Int) q
    refine Ev.step (f := fun k => (vec_Largest.f k (colP l N C F (M - F))).bind fun b => (if e = 0 then (if v = wrap64 (F + mx b.1 0) then (if (F : Int) < 0 then (vernierlaw24_PivotTellsC.j2 k F q (swapV M N l F q).2.2.2 true M N l (swapV M N l F q).1 (swapV M N l F q).2.1 (swapV M N l F q).2.2.1) else (if (F : Int) ≥ M then (vernierlaw24_PivotTellsC.j2 k F q (swapV M N l F q).2.2.2 true M N l (swapV M N l F q).1 (swapV M N l F q).2.1 (swapV M N l F q).2.2.1) else (if q < 0 then (vernierlaw24_PivotTellsC.j2 k F q (swapV M N l F q).2.2.2 true M N l (swapV M N l F q).1 (swapV M N l F q).2.1 (swapV M N l F q).2.2.1) else (vernierlaw24_PivotTellsC.j2 k F q (swapV M N l F q).2.2.2 (decide (q ≥ M)) M N l (swapV M N l F q).1 (swapV M N l F q).2.1 (swapV M N l F q).2.2.1)))) else some false) else some false)) (fun k => ?_) (Ev.bind L ?_)
    · simp only [vernierlaw24_PivotTellsC.l0]; rw [if_neg (by omega)]
    · simp only [if_pos he, if_pos hv]; exact T
  | succ d ih =>
    intro t ht
    have hp := place_lt (i := F + t) (j := C) (r := M) (c := N) (by omega) hC
    refine Ev.step (f := fun k => vernierlaw24_PivotTellsC.l0 k C F q v e (swapV M N l F q).2.2.2 (colP l N C F (t + 1)) ((F + (t + 1) : Nat) : Int) M N l (swapV M N l F q).1 (swapV M N l F q).2.1 (swapV M N l F q).2.2.1) (fun k => ?_) (ih (t + 1) (by omega))
    simp only [vernierlaw24_PivotTellsC.l0]
    rw [if_pos (by omega), wmul _ _ (by omega), wadd _ _ (by omega), if_pos (by omega), if_pos (by omega), if_pos (by unfold colP; rw [mk_len]; omega), wsucc _ (by omega), rd_nat]
    rw [show colP l N C F t ++ [l.getD ((F + t) * N + C) 0] = colP l N C F (t + 1) from mkSnoc t (fun i => l.getD ((F + i) * N + C) 0)]
    rfl
theorem tellsC (m n : Int) {l : List Int} (hl : U64s l) (h : okMat m n l) (col f q : Int) (hr : 0 ≤ f ∧ f < m ∧ 0 ≤ col ∧ col < n) : Ev (fun k => vernierlaw24_PivotTellsC.f k m n l col f q) true := by
  have S := search_ev m n hl col f
  unfold searchV at S
  rw [if_pos h, if_pos hr] at S
  unfold vernierlaw24_PivotTellsC.f
  refine Ev.bind alive24 ?_
  simp only [if_true]
  refine Ev.bind S ?_
  rw [swap_eq, check_eq, if_pos h]
  simp only [Option.bind_some, if_true]
  obtain ⟨g1, g2, g3, g4⟩ := hr
  simp only [if_neg (show ¬ f < 0 by omega), if_neg (show ¬ f ≥ m by omega), if_neg (show ¬ col < 0 by omega)]
  rw [decide_eq_false (show ¬ col ≥ n by omega)]
  have h' := h
  obtain ⟨h1, h2, h3, h4, h5⟩ := h
  obtain ⟨M, rfl⟩ := Int.eq_ofNat_of_zero_le (show 0 ≤ m by omega)
  obtain ⟨N, rfl⟩ := Int.eq_ofNat_of_zero_le (show 0 ≤ n by omega)
  obtain ⟨F, rfl⟩ := Int.eq_ofNat_of_zero_le g1
  obtain ⟨C, rfl⟩ := Int.eq_ofNat_of_zero_le g3
  have hlen : l.length = M * N := by exact_mod_cast h5
  simp only [Int.toNat_natCast]
  have bd := lgT_bd (colP l N C F (M - F)) 0 (-1, 0) (by decide) (by decide)
  rw [show (colP l N C F (M - F)).length = M - F from mk_len _ _] at bd
  have hw : wrap64 ((F : Int) + mx (lgT (colP l N C F (M - F)) 0 (-1, 0)).1 0) = (F : Int) + mx (lgT (colP l N C F (M - F)) 0 (-1, 0)).1 0 := by
    generalize (lgT (colP l N C F (M - F)) 0 (-1, 0)).1 = z at *
    apply w64 <;> unfold mx <;> split <;> omega
  have L := col_l hl h' hlen (C := C) (F := F) (by omega) q 0 _ hw.symm rfl (M - F) 0 (by omega)
  refine Ev.step (fun k => ?_) L
  simp only [vernierlaw24_PivotTellsC.j0]
  rw [if_neg (by decide)]; rfl
theorem PivotTells_walk (W : World) (m n : Int) (A : Option Addr) (c : Nat) (l : List Int) (_wm : (Lit.int .i64 m).wf = true) (_wn : (Lit.int .i64 n).wf = true) (hr : Kd.C (Kd.int .u64) W A l.length l) (hc : l.length ≤ c) (_hm : l.length ≤ maxLen) (hw : ∀ x ∈ l, (Lit.int .u64 x).wf = true) (col : Int) (_wc : (Lit.int .i64 col).wf = true) (f : Int) (_wf : (Lit.int .i64 f).wf = true) (q : Int) (_wq : (Lit.int .i64 q).wf = true) :
    Calls Try.prog 8 #[.agg #[.int .i64 m, .int .i64 n, .slice A l.length c], .int .i64 col, .int .i64 f, .int .i64 q] W fun e w' => e = .returned (.bool true) ∧ Below W.heap.size W w' := by
  have hl := u64s_of hw
  by_cases h : okMat m n l
  · by_cases g : 0 ≤ f ∧ f < m ∧ 0 ≤ col ∧ col < n
    · obtain ⟨k, e⟩ := (tellsC m n hl h col f q g).rounds
      exact (vernierlaw24_PivotTellsC.calls k m n A c l col f q true W hr hc e).mono fun e w' h => h
    · obtain ⟨k, e⟩ := (tellsB m n hl h col f q g).rounds
      exact (vernierlaw24_PivotTellsB.calls k m n A c l col f q true W hr hc e).mono fun e w' h => h
  · obtain ⟨k, e⟩ := (tellsA m n hl h col f q).rounds
    exact (vernierlaw24_PivotTellsA.calls k m n A c l col f q true W hr hc e).mono fun e w' h => h
end Go.Proofs.Ytceghmceoliplaa.Pure
