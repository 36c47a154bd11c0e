/- PivotGreatest: no number of the column, from that row on, is greater than the one that was found. For every matrix, column and row. -/
import Derived.Test.YtceghmceoliplaaPPivotGreatestx2
import Derived.Laws.BitsLemmas
import Derived.Laws.BitsAllLaws
namespace Go.Proofs.Ytceghmceoliplaa.Pure
open Go.RowKit Go.Proofs.Ytceghmceoliplaa.PPivotGreatest Go.Proofs.YtceghmceoliplaaW.PrintWords Go.Proofs.YtceghmceoliplaaW.PrintLast Go.Proofs.YtceghmceoliplaaW.PrintMore
-- Whole numbers that fit; places in a matrix; lists made of a function.
theorem w64 {x : Int} (h0 : -9223372036854775808 ≤ x) (h1 : x < 9223372036854775808) : wrap64 x = x := by unfold wrap64; omega
theorem wN (n : Nat) (h : n < 9223372036854775808) : wrap64 (n : Int) = (n : Int) := w64 (by omega) (by omega)
theorem wmul (a b : Nat) (h : a * b < 9223372036854775808) : wrap64 ((a : Int) * (b : Int)) = ((a * b : Nat) : Int) := by rw [← Int.natCast_mul]; exact wN _ h
theorem wadd (a b : Nat) (h : a + b < 9223372036854775808) : wrap64 ((a : Int) + (b : Int)) = ((a + b : Nat) : Int) := by rw [← Int.natCast_add]; exact wN _ h
theorem wsucc (a : Nat) (h : a + 1 < 9223372036854775808) : wrap64 ((a : Int) + 1) = ((a + 1 : Nat) : Int) := wadd a 1 h
theorem place_lt {i j r c : Nat} (hi : i < r) (hj : j < c) : i * c + j < r * c := by
  have : (i + 1) * c ≤ r * c := Nat.mul_le_mul_right c hi
  rw [Nat.add_mul, Nat.one_mul] at this; omega
theorem place_div {i j c : Nat} (hj : j < c) : (i * c + j) / c = i := by
  rw [Nat.mul_comm, Nat.mul_add_div (by omega), Nat.div_eq_of_lt hj, Nat.add_zero]
theorem place_mod {i j c : Nat} (hj : j < c) : (i * c + j) % c = j := by
  rw [Nat.mul_comm, Nat.mul_add_mod, Nat.mod_eq_of_lt hj]
theorem place_of (k c : Nat) : k / c * c + k % c = k := by rw [Nat.mul_comm]; exact Nat.div_add_mod k c
theorem div_lt_of {k r c : Nat} (h : k < r * c) : k / c < r := Nat.div_lt_of_lt_mul (by rw [Nat.mul_comm]; exact h)
theorem mod_lt_of {k r c : Nat} (h : k < r * c) : k % c < c := Nat.mod_lt _ (by rcases Nat.eq_zero_or_pos c with rfl | h' <;> omega)
def mk (n : Nat) (f : Nat → Int) : List Int := (List.range n).map f
theorem mk_len (n : Nat) (f : Nat → Int) : (mk n f).length = n := by simp [mk]
theorem mk_get (n : Nat) (f : Nat → Int) (k : Nat) (h : k < n) : (mk n f).getD k 0 = f k := by
  simp [mk, List.getD_eq_getElem?_getD, h]
theorem rd_mk (n : Nat) (f : Nat → Int) (k : Nat) (h : k < n) : rd (mk n f) (k : Int) = f k := mk_get n f k h
theorem rd_nat (l : List Int) (k : Nat) : rd l (k : Int) = l.getD k 0 := rfl
theorem mk_congr {n : Nat} {f g : Nat → Int} (h : ∀ k, k < n → f k = g k) : mk n f = mk n g := List.map_congr_left (fun k hk => h k (List.mem_range.1 hk))
theorem mk_set (n : Nat) (f : Nat → Int) (p : Nat) (v : Int) : (mk n f).set p v = mk n (fun k => if k = p then v else f k) := by
  apply List.ext_getElem
  · simp [mk]
  · intro i h1 h2
    simp only [mk, List.length_set, List.length_map, List.length_range] at h1
    rw [List.getElem_set]
    simp only [mk, List.getElem_map, List.getElem_range]
    by_cases e : p = i
    · subst e; simp
    · rw [if_neg e, if_neg (fun h => e h.symm)]
theorem mk_const (n : Nat) (v : Int) : List.replicate n v = mk n (fun _ => v) := by
  apply List.ext_getElem
  · simp [mk]
  · intro i h1 h2; simp [mk]
theorem mk_self (l : List Int) : mk l.length (fun k => l.getD k 0) = l := by
  apply List.ext_getElem
  · simp [mk]
  · intro i h1 h2
    simp only [mk, List.getElem_map, List.getElem_range]
    rw [List.getD_eq_getElem?_getD, List.getElem?_eq_getElem h2]; rfl
theorem mk_eq {n : Nat} {f : Nat → Int} {l : List Int} (hl : l.length = n) (h : ∀ k, k < n → l.getD k 0 = f k) : l = mk n f := by
  subst hl
  exact (mk_self l).symm.trans (mk_congr h)
theorem Ev.no {α : Type} {g : Nat → Option α} {r : α} (h : ∀ k, g (k + 1) = some r) : Ev g r := Ev.step (f := fun _ => some r) h (Ev.now r)
-- Words of 64 bits: masks and joins.
theorem wraps_u64 (n : Int) (h₀ : 0 ≤ n) (h₁ : n < 2 ^ 64) : IntKind.u64.wrap n = n := by rw [IntKind.wrap_u64]; omega
theorem mask64 (i : Nat) (hi : i ≤ 64) (x : Int) (h0 : 0 ≤ x) (h1 : x < 18446744073709551616) : Go.bits .and .u64 x (2 ^ i - 1) = x % 2 ^ i :=
  bits_mask .u64 64 (by decide) wraps_u64 i hi x h0 (by omega)
theorem and2047 {x : Int} (h0 : 0 ≤ x) (h1 : x < 18446744073709551616) : Go.bits .and .u64 x 2047 = x % 2048 := by have := mask64 11 (by omega) x h0 h1; simpa using this
theorem and52 {x : Int} (h0 : 0 ≤ x) (h1 : x < 18446744073709551616) : Go.bits .and .u64 x 4503599627370495 = x % 4503599627370496 := by have := mask64 52 (by omega) x h0 h1; simpa using this
theorem and1_u64 {x : Int} (h0 : 0 ≤ x) (h1 : x < 18446744073709551616) : Go.bits .and .u64 x 1 = x % 2 := by have := mask64 1 (by omega) x h0 h1; simpa using this
theorem and63 {x : Int} (h0 : 0 ≤ x) (h1 : x < 18446744073709551616) : Go.bits .and .u64 x 9223372036854775808 = x / 9223372036854775808 * 9223372036854775808 := by
  obtain ⟨a, rfl⟩ := Int.eq_ofNat_of_zero_le h0
  have h := u64_and_nat a 9223372036854775808 (by omega) (by omega)
  rw [show ((9223372036854775808 : Nat) : Int) = 9223372036854775808 from rfl] at h
  rw [h, nat_hi64_63]; omega
theorem or64_join (i : Nat) (y x : Int) (hy : 0 ≤ y) (hy' : y < 2 ^ i) (hx : 0 ≤ x) (hx' : x % 2 ^ i = 0) (h1 : y < 18446744073709551616) (h2 : x < 18446744073709551616) : Go.bits .or .u64 y x = y + x ∧ Go.bits .or .u64 x y = x + y := by
  have h := bits_join .u64 64 (by decide) wraps_u64 i x y hx hx' (by omega) hy hy' (by omega)
  refine ⟨?_, h⟩
  obtain ⟨a, rfl⟩ := Int.eq_ofNat_of_zero_le hy
  obtain ⟨b, rfl⟩ := Int.eq_ofNat_of_zero_le hx
  rw [u64_or_nat b a (by omega) (by omega)] at h
  rw [u64_or_nat a b (by omega) (by omega), Nat.or_comm, h]; omega
theorem or52 {y : Int} (h0 : 0 ≤ y) (h1 : y < 4503599627370496) : Go.bits .or .u64 y 4503599627370496 = y + 4503599627370496 :=
  (or64_join 52 y 4503599627370496 h0 (by omega) (by omega) (by decide) (by omega) (by omega)).1
-- A binary64 number's parts, and what the printed functions of them come to.
def E (a : Int) : Int := a / 4503599627370496 % 2048
def F (a : Int) : Int := a % 4503599627370496
def cls (a : Int) : Int := if E a = 2047 then (if F a = 0 then 2 else 3) else if E a = 0 ∧ F a = 0 then 0 else 1
def sg (a : Int) : Int := if E a = 0 then F a else F a + 4503599627370496
def ex (a : Int) : Int := if E a = 0 then -1074 else E a - 1075
def neg (a : Int) : Bool := decide (a ≥ 9223372036854775808)
theorem E_bd (a : Int) : 0 ≤ E a ∧ E a < 2048 := by unfold E; omega
theorem F_bd (a : Int) : 0 ≤ F a ∧ F a < 4503599627370496 := by unfold F; omega
theorem u64_bd {a : Int} (h : (Lit.int .u64 a).wf = true) : 0 ≤ a ∧ a < 18446744073709551616 := by
  have := (by simpa [Lit.wf, IntKind.min, IntKind.max, IntKind.bits, IntKind.signed] using h : 0 ≤ a ∧ a ≤ 18446744073709551615); omega
theorem i64_bd {a : Int} (h : (Lit.int .i64 a).wf = true) : -9223372036854775808 ≤ a ∧ a < 9223372036854775808 := by
  have := (by simpa [Lit.wf, IntKind.min, IntKind.max, IntKind.bits, IntKind.signed] using h : -9223372036854775808 ≤ a ∧ a ≤ 9223372036854775807); omega
theorem expo {a : Int} (h0 : 0 ≤ a) (h1 : a < 18446744073709551616) : Go.bits .and .u64 (a / 4503599627370496) 2047 = E a := and2047 (by omega) (by omega)
theorem refE {a : Int} (h0 : 0 ≤ a) (h1 : a < 18446744073709551616) : Int.tmod (IntKind.u64.wrap (Int.tdiv a 4503599627370496)) 2048 = E a := by
  rw [Int.tdiv_eq_ediv_of_nonneg h0, wraps_u64 _ (by omega) (by omega), Int.tmod_eq_emod_of_nonneg (by omega)]; rfl
theorem refF {a : Int} (h0 : 0 ≤ a) : Int.tmod a 4503599627370496 = F a := by rw [Int.tmod_eq_emod_of_nonneg h0]; rfl
theorem class_ev {a : Int} (h0 : 0 ≤ a) (h1 : a < 18446744073709551616) : Ev (fun k => parts_Class.f k a) (cls a) := by
  have hf := F_bd a
  have key : ∀ x, Ev (fun k => parts_Class.j0 k (E a) (F a) x) (if x = true then 3 else if E a = 2047 then 2 else if E a = 0 ∧ F a = 0 then 0 else 1) := fun x => by
    refine Ev.no (fun k => ?_)
    simp only [parts_Class.j0]
    by_cases hx : x = true
    · rw [if_pos hx, if_pos hx]
    rw [if_neg hx, if_neg hx]
    by_cases h2 : E a = 2047
    · rw [if_pos h2, if_pos h2]
    rw [if_neg h2, if_neg h2]
    by_cases h3 : E a = 0
    · rw [if_pos h3]
      by_cases h4 : F a = 0
      · rw [if_pos h4, if_pos ⟨h3, h4⟩]
      · rw [if_neg h4, if_neg (fun h => h4 h.2)]
    · rw [if_neg h3, if_neg (fun h => h3 h.1)]
  refine Ev.congr (f := fun k => parts_Class.j0 k (E a) (F a) (decide (E a = 2047 ∧ F a ≠ 0))) (fun k => ?_) ?_
  · unfold parts_Class.f
    rw [expo h0 h1, and52 h0 h1]
    by_cases h2 : E a = 2047
    · rw [if_pos h2]; congr 1
      rw [Bool.eq_iff_iff]; simp [h2]; rfl
    · rw [if_neg h2]; simp [h2]; rfl
  · have := key (decide (E a = 2047 ∧ F a ≠ 0))
    unfold cls
    by_cases h2 : E a = 2047
    · by_cases h3 : F a = 0
      · simp [h2, h3] at this ⊢; exact this
      · simp [h2, h3] at this ⊢; exact this
    · simp [h2] at this ⊢; exact this
-- What the printed functions of the package shape come to.
def okMat (m n : Int) (l : List Int) : Prop := 1 ≤ m ∧ m ≤ 64 ∧ 1 ≤ n ∧ n ≤ 64 ∧ (l.length : Int) = m * n
instance (m n : Int) (l : List Int) : Decidable (okMat m n l) := by unfold okMat; infer_instance
theorem prod_le {m n : Int} (h0 : 1 ≤ m) (h1 : m ≤ 64) (h2 : 1 ≤ n) (h3 : n ≤ 64) : 1 ≤ m * n ∧ m * n ≤ 4096 := by
  constructor
  · have := Int.mul_le_mul h0 h2 (by omega) (by omega); omega
  · have := Int.mul_le_mul h1 h3 (by omega) (by omega); omega
theorem wprod {m n : Int} (h0 : 1 ≤ m) (h1 : m ≤ 64) (h2 : 1 ≤ n) (h3 : n ≤ 64) : wrap64 (m * n) = m * n := by
  have := prod_le h0 h1 h2 h3; exact w64 (by omega) (by omega)
theorem side_eq (n : Int) : shape_side.f n = some (decide (1 ≤ n ∧ n ≤ 64)) := by
  unfold shape_side.f
  by_cases h : n ≥ 1
  · rw [if_pos h]; congr 1; rw [decide_eq_decide]; omega
  · rw [if_neg h]; congr 1; rw [eq_comm, decide_eq_false_iff_not]; omega
theorem check_eq (m n : Int) (l : List Int) : shape_Check.f m n l = some (if okMat m n l then 0 else 11) := by
  unfold shape_Check.f
  rw [side_eq, Option.bind_some]
  by_cases h1 : 1 ≤ m ∧ m ≤ 64
  · rw [decide_eq_true h1, if_pos rfl, side_eq, Option.bind_some]
    by_cases h2 : 1 ≤ n ∧ n ≤ 64
    · rw [decide_eq_true h2, if_pos rfl, wprod h1.1 h1.2 h2.1 h2.2]
      by_cases h3 : (l.length : Int) = m * n
      · rw [if_pos h3, if_pos (show okMat m n l from ⟨h1.1, h1.2, h2.1, h2.2, h3⟩)]
      · rw [if_neg h3, if_neg (fun h : okMat m n l => h3 h.2.2.2.2)]
    · rw [decide_eq_false h2, if_neg (by decide), if_neg (fun h : okMat m n l => h2 ⟨h.2.2.1, h.2.2.2.1⟩)]
  · rw [decide_eq_false h1, if_neg (by decide), if_neg (fun h : okMat m n l => h1 ⟨h.1, h.2.1⟩)]
theorem clr63 {a : Int} (a0 : 0 ≤ a) (a1 : a < 18446744073709551616) : Go.bits .andNot .u64 a 9223372036854775808 = a % 9223372036854775808 := by
  obtain ⟨x, rfl⟩ := Int.eq_ofNat_of_zero_le a0
  have h := u64_andNot_nat x 9223372036854775808 (by omega) (by omega)
  rw [show ((9223372036854775808 : Nat) : Int) = 9223372036854775808 from rfl] at h
  rw [h, show (18446744073709551615 - 9223372036854775808 : Nat) = 2 ^ 63 - 1 by decide, Nat.and_two_pow_sub_one_eq_mod]
  omega
-- shape.Finite, with the function that it hands on.
def U64s (l : List Int) : Prop := ∀ x ∈ l, 0 ≤ x ∧ x < 18446744073709551616
theorem u64s_of {l : List Int} (h : ∀ x ∈ l, (Lit.int .u64 x).wf = true) : U64s l := fun x hx => u64_bd (h x hx)
theorem u64s_get {l : List Int} (h : U64s l) (i : Nat) : 0 ≤ l.getD i 0 ∧ l.getD i 0 < 18446744073709551616 := by
  rw [List.getD_eq_getElem?_getD]
  by_cases g : i < l.length
  · rw [List.getElem?_eq_getElem g]; exact h _ (List.getElem_mem g)
  · rw [List.getElem?_eq_none (by omega)]; simp
def badF (l : List Int) : Bool := l.any (fun a => decide (cls a > 1))
theorem fin1_ev {a : Int} (h0 : 0 ≤ a) (h1 : a < 18446744073709551616) : Ev (fun k => shape_Finite_1.f k a) (decide (cls a > 1)) := by
  unfold shape_Finite_1.f
  exact Ev.bind (class_ev h0 h1) (Ev.now _)
theorem contains_l {l : List Int} (hl : U64s l) (hm : l.length < 9223372036854775807) (d : Nat) : ∀ i : Nat, i + d = l.length → Ev (fun k => slices_ContainsFunc_uint64_uint64.l0 k l i) (badF (l.drop i)) := by
  induction d with
  | zero =>
    intro i hi
    refine Ev.no (fun k => ?_)
    simp only [slices_ContainsFunc_uint64_uint64.l0]
    rw [if_neg (by omega), List.drop_of_length_le (by omega)]; rfl
  | succ d ih =>
    intro i hi
    have h1 : i < l.length := by omega
    have e1 : l.drop i = l.getD i 0 :: l.drop (i + 1) := by rw [List.getD_eq_getElem?_getD, List.getElem?_eq_getElem h1, List.drop_eq_getElem_cons h1]; rfl
    obtain ⟨b0, b1⟩ := u64s_get hl i
    refine Ev.step (f := fun k => (shape_Finite_1.f k (l.getD i 0)).bind fun t => if t = true then (some true) else (slices_ContainsFunc_uint64_uint64.l0 k l ((i + 1 : Nat) : Int))) (fun k => ?_) (Ev.bind (fin1_ev b0 b1) ?_)
    · simp only [slices_ContainsFunc_uint64_uint64.l0]
      rw [if_pos (by omega), if_pos (by omega), rd_nat, wsucc _ (by omega)]
    · rw [e1]
      unfold badF
      rw [List.any_cons]
      by_cases g : cls (l.getD i 0) > 1
      · rw [decide_eq_true g]; simp only [if_true, Bool.true_or]; exact Ev.now _
      · rw [decide_eq_false g]; simp only [if_neg (show ¬ (false = true) by decide), Bool.false_or]; exact ih (i + 1) (by omega)
theorem contains_ev {l : List Int} (hl : U64s l) (hm : l.length < 9223372036854775807) : Ev (fun k => slices_ContainsFunc_uint64_uint64.f k l) (badF l) := contains_l hl hm l.length 0 (by omega)
theorem finite_ev (m n : Int) {l : List Int} (hl : U64s l) (hm : l.length < 9223372036854775807) : Ev (fun k => shape_Finite.f k m n l) (if okMat m n l then (if badF l then 12 else 0) else 11) := by
  unfold shape_Finite.f
  rw [check_eq]
  simp only [Option.bind_some]
  by_cases h : okMat m n l
  · simp only [if_pos h, if_true]
    refine Ev.bind (contains_ev hl hm) ?_
    cases badF l <;> exact Ev.now _
  · simp only [if_neg h, if_neg (show ¬ (11 : Int) = 0 by decide)]; exact Ev.now _
-- vec.Largest: where the greatest number stands.
def absF (a : Int) : Int := if cls a = 3 then 9221120237041090560 else a % 9223372036854775808
theorem abs_ev {a : Int} (h0 : 0 ≤ a) (h1 : a < 18446744073709551616) : Ev (fun k => fcmp_Abs.f k a) (absF a) := by
  unfold fcmp_Abs.f fcmp_is.f
  refine Ev.bind (Ev.bind (class_ev h0 h1) (Ev.now _)) ?_
  rw [clr63 h0 h1]
  unfold absF
  by_cases g : cls a = 3
  · rw [g]; simp only [if_true, beq_self_eq_true]; exact Ev.now _
  · rw [beq_eq_false_iff_ne.mpr g]; simp only [if_neg g, if_neg (show ¬ (false = true) by decide)]; exact Ev.now _
/-- One step: place, greatest so far, place and number that come. -/
def lgS (s : Int × Int) (i : Nat) (a : Int) : Int × Int := if absF a = 9221120237041090560 then s else if s.1 < 0 then ((i : Int), absF a) else if s.2 < absF a then ((i : Int), absF a) else s
def lgT : List Int → Nat → Int × Int → Int × Int
  | [], _, s => s
  | a :: l, i, s => lgT l (i + 1) (lgS s i a)
theorem largest_l {l : List Int} (hl : U64s l) (hm : l.length < 9223372036854775807) (d : Nat) : ∀ (i : Nat) (s : Int × Int), i + d = l.length → Ev (fun k => vec_Largest.l0 k s.1 s.2 l (l.length : Int) i) (lgT (l.drop i) i s) := by
  induction d with
  | zero =>
    intro i s hi
    refine Ev.no (fun k => ?_)
    simp only [vec_Largest.l0]
    rw [if_neg (by omega), List.drop_of_length_le (by omega)]; rfl
  | succ d ih =>
    intro i s hi
    have h1 : i < l.length := by omega
    have e1 : l.drop i = l.getD i 0 :: l.drop (i + 1) := by rw [List.getD_eq_getElem?_getD, List.getElem?_eq_getElem h1, List.drop_eq_getElem_cons h1]; rfl
    obtain ⟨b0, b1⟩ := u64s_get hl i
    refine Ev.step (f := fun k => (fcmp_Abs.f k (l.getD i 0)).bind fun t107 => (if t107 = 9221120237041090560 then (vec_Largest.l0 k s.1 s.2 l (l.length : Int) ((i + 1 : Nat) : Int)) else (if s.1 < 0 then (vec_Largest.l0 k i t107 l (l.length : Int) ((i + 1 : Nat) : Int)) else (if s.2 < t107 then (vec_Largest.l0 k i t107 l (l.length : Int) ((i + 1 : Nat) : Int)) else (vec_Largest.l0 k s.1 s.2 l (l.length : Int) ((i + 1 : Nat) : Int)))))) (fun k => ?_) (Ev.bind (abs_ev b0 b1) ?_)
    · simp only [vec_Largest.l0]
      rw [if_pos (by omega), if_pos (by omega), if_pos (by omega), rd_nat, wsucc _ (by omega)]
    · rw [e1]
      show Ev _ (lgT (l.drop (i + 1)) (i + 1) (lgS s i (l.getD i 0)))
      have key := ih (i + 1) (lgS s i (l.getD i 0)) (by omega)
      unfold lgS at key ⊢
      by_cases g1 : absF (l.getD i 0) = 9221120237041090560
      · simp only [if_pos g1] at key ⊢; exact key
      · simp only [if_neg g1] at key ⊢
        by_cases g2 : s.1 < 0
        · simp only [if_pos g2] at key ⊢; exact key
        · simp only [if_neg g2] at key ⊢
          by_cases g3 : s.2 < absF (l.getD i 0)
          · simp only [if_pos g3] at key ⊢; exact key
          · simp only [if_neg g3] at key ⊢; exact key
theorem largest_ev {l : List Int} (hl : U64s l) (hm : l.length < 9223372036854775807) : Ev (fun k => vec_Largest.f k l) (lgT l 0 (-1, 0)) := largest_l hl hm l.length 0 (-1, 0) (by omega)
/-- The place is one of the row's, or -1. -/
theorem lgT_bd : ∀ (l : List Int) (i : Nat) (s : Int × Int), -1 ≤ s.1 → s.1 < i → -1 ≤ (lgT l i s).1 ∧ (lgT l i s).1 < i + l.length
  | [], i, s, h0, h1 => by
    show -1 ≤ s.1 ∧ s.1 < (i : Int) + (([] : List Int).length : Int)
    exact ⟨h0, by simpa using h1⟩
  | a :: l, i, s, h0, h1 => by
    have h := lgT_bd l (i + 1) (lgS s i a) (by unfold lgS; (repeat' split) <;> (try dsimp only) <;> omega) (by unfold lgS; (repeat' split) <;> (try dsimp only) <;> omega)
    refine ⟨h.1, ?_⟩
    have h2 := h.2
    rw [List.length_cons]
    show (lgT l (i + 1) (lgS s i a)).1 < _
    omega
-- pivot.Search: the column, and its greatest number's row.
def colP (l : List Int) (n col f t : Nat) : List Int := mk t (fun i => l.getD ((f + i) * n + col) 0)
theorem mkSnoc (n : Nat) (f : Nat → Int) : mk n f ++ [f n] = mk (n + 1) f := by
  unfold mk; rw [List.range_succ, List.map_append]; rfl
theorem u64s_col {l : List Int} (hl : U64s l) (n col f t : Nat) : U64s (colP l n col f t) := by
  intro x hx
  unfold colP mk at hx
  obtain ⟨i, _, rfl⟩ := List.mem_map.1 hx
  exact u64s_get hl _
theorem search_l {l : List Int} {m n : Nat} (hl : U64s l) (hlen : l.length = m * n) (hm : m ≤ 64) (hn : n ≤ 64) {col f : Nat} (hcol : col < n) (d : Nat) : ∀ t : Nat, f + t + d = m →
    Ev (fun k => pivot_Search.l0 k col f (colP l n col f t) ((f + t : Nat) : Int) m n l) (wrap64 (f + mx (lgT (colP l n col f (t + d)) 0 (-1, 0)).1 0), 0) := by
  have hb : m * n ≤ 64 * 64 := Nat.mul_le_mul hm hn
  induction d with
  | zero =>
    intro t ht
    refine Ev.step (f := fun k => (vec_Largest.f k (colP l n col f t)).bind fun bt116 => (some (wrap64 ((f : Int) + (mx bt116.1 0)), 0))) (fun k => ?_) (Ev.bind (largest_ev (u64s_col hl _ _ _ _) (by unfold colP; rw [mk_len]; omega)) (Ev.now _))
    simp only [pivot_Search.l0]; rw [if_neg (by omega)]
  | succ d ih =>
    intro t ht
    have hp := place_lt (i := f + t) (j := col) (r := m) (c := n) (by omega) hcol
    refine Ev.step (f := fun k => pivot_Search.l0 k col f (colP l n col f (t + 1)) ((f + (t + 1) : Nat) : Int) m n l) (fun k => ?_) (by have := ih (t + 1) (by omega); rwa [show t + (d + 1) = t + 1 + d by omega])
    simp only [pivot_Search.l0]
    rw [if_pos (by omega), wmul _ _ (by omega), wadd _ _ (by omega), if_pos (by omega), if_pos (by omega), if_pos (by unfold colP; rw [mk_len]; omega), wsucc _ (by omega), rd_nat]
    rw [show colP l n col f t ++ [l.getD ((f + t) * n + col) 0] = colP l n col f (t + 1) from mkSnoc t (fun i => l.getD ((f + i) * n + col) 0)]
    rfl
theorem row_eq (m n : Int) (l : List Int) (i : Int) : pivot_row.f m n l i = some (decide (0 ≤ i ∧ i < m)) := by
  unfold pivot_row.f
  by_cases h : i ≥ 0
  · rw [if_pos h]; congr 1; rw [decide_eq_decide]; omega
  · rw [if_neg h]; congr 1; rw [eq_comm, decide_eq_false_iff_not]; omega
/-- What Search tells: of any matrix, column and row. -/
def searchV (m n : Int) (l : List Int) (col f : Int) : Int × Int :=
  if okMat m n l then (if 0 ≤ f ∧ f < m ∧ 0 ≤ col ∧ col < n then (f + mx (lgT (colP l n.toNat col.toNat f.toNat (m.toNat - f.toNat)) 0 (-1, 0)).1 0, 0) else (0, 4)) else (0, 11)
theorem search_ev (m n : Int) {l : List Int} (hl : U64s l) (col f : Int) : Ev (fun k => pivot_Search.f k m n l col f) (searchV m n l col f) := by
  unfold pivot_Search.f searchV
  rw [check_eq]
  simp only [Option.bind_some]
  by_cases h : okMat m n l
  · simp only [if_pos h, if_true]
    rw [row_eq]
    simp only [Option.bind_some]
    have J : ∀ x : Bool, x = (!decide (0 ≤ f ∧ f < m ∧ 0 ≤ col ∧ col < n)) → Ev (fun k => pivot_Search.j0 k col f x m n l) (if 0 ≤ f ∧ f < m ∧ 0 ≤ col ∧ col < n then (f + mx (lgT (colP l n.toNat col.toNat f.toNat (m.toNat - f.toNat)) 0 (-1, 0)).1 0, 0) else (0, 4)) := by
      intro x hx
      by_cases g : 0 ≤ f ∧ f < m ∧ 0 ≤ col ∧ col < n
      · rw [decide_eq_true g] at hx
        subst hx
        rw [if_pos g]
        obtain ⟨g1, g2, g3, g4⟩ := g
        obtain ⟨h1, h2, h3, h4, h5⟩ := h
        obtain ⟨M, rfl⟩ := Int.eq_ofNat_of_zero_le (show 0 ≤ m by omega)
        obtain ⟨N, rfl⟩ := Int.eq_ofNat_of_zero_le (show 0 ≤ n by omega)
        obtain ⟨F, rfl⟩ := Int.eq_ofNat_of_zero_le g1
        obtain ⟨C, rfl⟩ := Int.eq_ofNat_of_zero_le g3
        have hlen : l.length = M * N := by exact_mod_cast h5
        have S := search_l hl hlen (by omega) (by omega) (col := C) (f := F) (by omega) (M - F) 0 (by omega)
        rw [Nat.zero_add, Nat.add_zero] at S
        have bd := lgT_bd (colP l N C F (M - F)) 0 (-1, 0) (by decide) (by decide)
        rw [show (colP l N C F (M - F)).length = M - F from mk_len _ _] at bd
        have hw : wrap64 ((F : Int) + mx (lgT (colP l N C F (M - F)) 0 (-1, 0)).1 0) = (F : Int) + mx (lgT (colP l N C F (M - F)) 0 (-1, 0)).1 0 := by
          generalize (lgT (colP l N C F (M - F)) 0 (-1, 0)).1 = z at *
          apply w64 <;> unfold mx <;> split <;> omega
        rw [hw] at S
        simp only [Int.toNat_natCast]
        refine Ev.step (f := fun k => pivot_Search.l0 k (C : Int) (F : Int) ([] : List Int) (F : Int) (M : Int) (N : Int) l) (fun k => ?_) S
        simp only [pivot_Search.j0]; rw [if_neg (by decide)]
      · rw [decide_eq_false g] at hx
        subst hx
        rw [if_neg g]
        refine Ev.no (fun k => ?_)
        simp only [pivot_Search.j0]; rw [if_pos (by decide)]
    by_cases g1 : 0 ≤ f ∧ f < m
    · simp only [decide_eq_true g1, if_true]
      by_cases g2 : col < 0
      · simp only [if_pos g2]
        exact J true (by rw [decide_eq_false (by omega)]; rfl)
      · simp only [if_neg g2]
        refine J _ ?_
        by_cases g3 : col ≥ n
        · rw [decide_eq_true g3, decide_eq_false (by omega)]; rfl
        · rw [decide_eq_false g3, decide_eq_true (by omega)]; rfl
    · simp only [decide_eq_false g1, if_neg (show ¬ (false = true) by decide)]
      exact J true (by rw [decide_eq_false (by omega)]; rfl)
  · simp only [if_neg h, if_neg (show ¬ (11 : Int) = 0 by decide)]; exact Ev.now _
/-- All are finite: the first place with the greatest. -/
theorem lgT_first : ∀ (l : List Int) (i : Nat) (L : List Int), (∀ x ∈ L, 0 ≤ x ∧ x < 18446744073709551616) → badF L = false → L.drop i = l → ∀ s : Int × Int,
    (∀ j : Nat, j < i → s.1 ≥ 0) → (0 ≤ s.1 → s.1 < i ∧ s.2 = L.getD s.1.toNat 0 % 9223372036854775808) → (∀ j : Nat, j < i → L.getD j 0 % 9223372036854775808 ≤ s.2 ∧ ((j : Int) < s.1 → L.getD j 0 % 9223372036854775808 < s.2)) → 0 < L.length →
    0 ≤ (lgT l i s).1 ∧ (lgT l i s).1 < L.length ∧ (∀ j : Nat, j < L.length → L.getD j 0 % 9223372036854775808 ≤ L.getD (lgT l i s).1.toNat 0 % 9223372036854775808 ∧ ((j : Int) < (lgT l i s).1 → L.getD j 0 % 9223372036854775808 < L.getD (lgT l i s).1.toNat 0 % 9223372036854775808))
  | [], i, L, hL, hb, hd, s, h1, h2, h3, h4 => by
    have hi : L.length ≤ i := by
      have := congrArg List.length hd
      rw [List.length_drop, List.length_nil] at this; omega
    have hs := h1 0 (by omega)
    have h2' := h2 hs
    show 0 ≤ s.1 ∧ s.1 < L.length ∧ ∀ j : Nat, j < L.length → L.getD j 0 % 9223372036854775808 ≤ L.getD s.1.toNat 0 % 9223372036854775808 ∧ ((j : Int) < s.1 → L.getD j 0 % 9223372036854775808 < L.getD s.1.toNat 0 % 9223372036854775808)
    by_cases g : s.1 < L.length
    · refine ⟨hs, g, fun j hj => ?_⟩
      rw [← h2'.2]
      exact h3 j (by omega)
    · exfalso
      -- the place lies in the row: beyond it the numbers are 0
      have h5 := h3 0 (by omega)
      have : L.getD s.1.toNat 0 = 0 := by rw [List.getD_eq_getElem?_getD, List.getElem?_eq_none (by omega)]; rfl
      rw [this] at h2'
      have := (h3 0 (by omega)).2 (by omega)
      have := (hL (L.getD 0 0) (by rw [List.getD_eq_getElem?_getD, List.getElem?_eq_getElem h4]; exact List.getElem_mem h4)).1
      omega
  | a :: l, i, L, hL, hb, hd, s, h1, h2, h3, h4 => by
    have hi : i < L.length := by
      apply Nat.lt_of_not_le
      intro h
      rw [List.drop_of_length_le h] at hd; cases hd
    have e1 : L.drop i = L.getD i 0 :: L.drop (i + 1) := by rw [List.getD_eq_getElem?_getD, List.getElem?_eq_getElem hi, List.drop_eq_getElem_cons hi]; rfl
    rw [hd] at e1
    obtain ⟨rfl, e2⟩ := List.cons.inj e1
    have hmem : L.getD i 0 ∈ L := by rw [List.getD_eq_getElem?_getD, List.getElem?_eq_getElem hi]; exact List.getElem_mem hi
    obtain ⟨b0, b1⟩ := hL _ hmem
    have hc : ¬ cls (L.getD i 0) > 1 := by
      intro h
      have : badF L = true := by unfold badF; rw [List.any_eq_true]; exact ⟨_, hmem, decide_eq_true h⟩
      rw [hb] at this; cases this
    have ha : absF (L.getD i 0) = L.getD i 0 % 9223372036854775808 := by unfold absF; rw [if_neg (by omega)]
    have hn : L.getD i 0 % 9223372036854775808 ≠ 9221120237041090560 := by
      unfold cls E F at hc
      intro h
      split at hc
      · split at hc <;> omega
      · omega
    show 0 ≤ (lgT l (i + 1) (lgS s i (L.getD i 0))).1 ∧ _
    refine lgT_first l (i + 1) L hL hb e2.symm (lgS s i (L.getD i 0)) ?_ ?_ ?_ h4
    · intro j _
      unfold lgS
      rw [ha, if_neg hn]
      by_cases g2 : s.1 < 0
      · rw [if_pos g2]; show (i : Int) ≥ 0; omega
      · rw [if_neg g2]; split
        · show (i : Int) ≥ 0; omega
        · omega
    · unfold lgS
      rw [ha, if_neg hn]
      by_cases g2 : s.1 < 0
      · rw [if_pos g2]; intro _; exact ⟨by show (i : Int) < _; omega, rfl⟩
      · rw [if_neg g2]
        by_cases g3 : s.2 < L.getD i 0 % 9223372036854775808
        · rw [if_pos g3]; intro _; exact ⟨by show (i : Int) < _; omega, rfl⟩
        · rw [if_neg g3]; intro h; have := h2 h; exact ⟨by omega, this.2⟩
    · intro j hj
      unfold lgS
      rw [ha, if_neg hn]
      by_cases g2 : s.1 < 0
      · rw [if_pos g2]
        have : j = i := by
          by_cases g : j < i
          · have := h1 j g; omega
          · omega
        subst this
        exact ⟨by show L.getD j 0 % 9223372036854775808 ≤ L.getD j 0 % 9223372036854775808; omega, fun h => by exfalso; have : (j : Int) < (j : Int) := h; omega⟩
      · rw [if_neg g2]
        by_cases g3 : s.2 < L.getD i 0 % 9223372036854775808
        · rw [if_pos g3]
          show L.getD j 0 % 9223372036854775808 ≤ L.getD i 0 % 9223372036854775808 ∧ ((j : Int) < (i : Int) → L.getD j 0 % 9223372036854775808 < L.getD i 0 % 9223372036854775808)
          by_cases g : j < i
          · have := (h3 j g).1; exact ⟨by omega, fun _ => by omega⟩
          · have : j = i := by omega
            subst this; exact ⟨by omega, fun h => by omega⟩
        · rw [if_neg g3]
          by_cases g : j < i
          · exact h3 j g
          · have : j = i := by omega
            subst this
            refine ⟨by omega, fun h => ?_⟩
            have := (h2 (by omega)).1; omega
theorem alive24 : Ev (fun k => vernierlaw24_alive.f k) true := Ev.of vernierlaw24_alive.mono (k := 20) (by decide +kernel)
theorem great_l {l : List Int} {m n : Nat} (hl : U64s l) (hlen : l.length = m * n) (hm : m ≤ 64) (hn : n ≤ 64) {col p f : Nat} (hcol : col < n) (hp : p < m)
    (hg : ∀ i : Nat, f ≤ i → i < m → l.getD (i * n + col) 0 % 9223372036854775808 ≤ l.getD (p * n + col) 0 % 9223372036854775808 ∧ (i < p → l.getD (i * n + col) 0 % 9223372036854775808 < l.getD (p * n + col) 0 % 9223372036854775808)) (d : Nat) : ∀ i : Nat, f ≤ i → i + d = m →
    Ev (fun k => vernierlaw24_PivotGreatest.l0 k col p i m n l) true := by
  have hb : m * n ≤ 64 * 64 := Nat.mul_le_mul hm hn
  induction d with
  | zero =>
    intro i _ hi
    refine Ev.no (fun k => ?_)
    simp only [vernierlaw24_PivotGreatest.l0]; rw [if_neg (by omega)]
  | succ d ih =>
    intro i hf hi
    have h1 := place_lt (i := i) (j := col) (r := m) (c := n) (by omega) hcol
    have h2 := place_lt (i := p) (j := col) (r := m) (c := n) hp hcol
    have hq := hg i hf (by omega)
    obtain ⟨x0, x1⟩ := u64s_get hl (i * n + col)
    obtain ⟨y0, y1⟩ := u64s_get hl (p * n + col)
    refine Ev.step (f := fun k => vernierlaw24_PivotGreatest.l0 k col p ((i + 1 : Nat) : Int) m n l) (fun k => ?_) (ih (i + 1) (by omega) (by omega))
    simp only [vernierlaw24_PivotGreatest.l0]
    rw [if_pos (by omega), wmul i n (by omega), wadd _ _ (by omega), if_pos (by omega), if_pos (by omega), wmul p n (by omega), wadd _ _ (by omega), if_pos (by omega), if_pos (by omega), rd_nat, rd_nat, clr63 x0 x1, clr63 y0 y1, wsucc _ (by omega)]
    rw [if_neg (by omega)]
    by_cases g : l.getD (i * n + col) 0 % 9223372036854775808 = l.getD (p * n + col) 0 % 9223372036854775808
    · rw [if_pos g, if_neg (by intro h; have := hq.2 (by omega); omega)]
    · rw [if_neg g]
theorem PivotGreatest_pure (m n : Int) {l : List Int} (hl : U64s l) (col f : Int) : Ev (fun k => vernierlaw24_PivotGreatest.f k m n l col f) true := by
  unfold vernierlaw24_PivotGreatest.f
  refine Ev.bind alive24 ?_
  simp only [if_true]
  refine Ev.bind (search_ev m n hl col f) ?_
  have J : ∀ p : Int, Ev (fun k => vernierlaw24_PivotGreatest.j0 k col f p true m n l) true := fun p => by
    refine Ev.no (fun k => ?_)
    simp only [vernierlaw24_PivotGreatest.j0]; rw [if_pos trivial]
  unfold searchV
  by_cases h : okMat m n l
  · simp only [if_pos h]
    by_cases g : 0 ≤ f ∧ f < m ∧ 0 ≤ col ∧ col < n
    · simp only [if_pos g, if_true]
      have hm5 : l.length < 9223372036854775807 := by
        have := h.2.2.2.2; have := prod_le h.1 h.2.1 h.2.2.1 h.2.2.2.1; omega
      refine Ev.bind (finite_ev m n hl hm5) ?_
      simp only [if_pos h]
      cases hbad : badF l with
      | true => exact J _
      | false =>
        obtain ⟨g1, g2, g3, g4⟩ := g
        obtain ⟨h1, h2, h3, h4, h5⟩ := h
        obtain ⟨M, rfl⟩ := Int.eq_ofNat_of_zero_le (show 0 ≤ m by omega)
        obtain ⟨N, rfl⟩ := Int.eq_ofNat_of_zero_le (show 0 ≤ n by omega)
        obtain ⟨F, rfl⟩ := Int.eq_ofNat_of_zero_le g1
        obtain ⟨C, rfl⟩ := Int.eq_ofNat_of_zero_le g3
        have hlen : l.length = M * N := by exact_mod_cast h5
        simp only [Int.toNat_natCast]
        have hget : ∀ j : Nat, j < M - F → (colP l N C F (M - F)).getD j 0 = l.getD ((F + j) * N + C) 0 := fun j hj => mk_get _ _ _ hj
        have hcl : (colP l N C F (M - F)).length = M - F := mk_len _ _
        have hcb : badF (colP l N C F (M - F)) = false := by
          unfold badF
          rw [List.any_eq_false]
          intro x hx
          unfold colP mk at hx
          obtain ⟨j, hj, rfl⟩ := List.mem_map.1 hx
          have hj := List.mem_range.1 hj
          have hpl := place_lt (i := F + j) (j := C) (r := M) (c := N) (by omega) (by omega)
          have hmem : l.getD ((F + j) * N + C) 0 ∈ l := by rw [List.getD_eq_getElem?_getD, List.getElem?_eq_getElem (by omega)]; exact List.getElem_mem _
          intro hgt
          have : badF l = true := by unfold badF; rw [List.any_eq_true]; exact ⟨_, hmem, hgt⟩
          rw [hbad] at this; cases this
        obtain ⟨p0, p1, p2⟩ := lgT_first (colP l N C F (M - F)) 0 (colP l N C F (M - F)) (u64s_col hl _ _ _ _) hcb (by rw [List.drop_zero]) (-1, 0) (fun j hj => by omega) (fun hh => by exfalso; revert hh; decide) (fun j hj => by omega) (by omega)
        obtain ⟨P, hP⟩ := Int.eq_ofNat_of_zero_le p0
        rw [hP, hcl] at p1 p2
        rw [hP]
        have hmx : mx (P : Int) 0 = (P : Int) := by unfold mx; split <;> omega
        rw [hmx, show (F : Int) + (P : Int) = ((F + P : Nat) : Int) by omega]
        have L := great_l (l := l) (m := M) (n := N) hl hlen (by omega) (by omega) (col := C) (p := F + P) (f := F) (by omega) (by omega) (fun i hi1 hi2 => by
          have := p2 (i - F) (by omega)
          rw [hget (i - F) (by omega), Int.toNat_natCast, hget P (by omega), show F + (i - F) = i by omega] at this
          exact ⟨this.1, fun hh => this.2 (by omega)⟩) (M - F) F (by omega) (by omega)
        refine Ev.step (f := fun k => vernierlaw24_PivotGreatest.j1 k C F ((F + P : Nat) : Int) false M N l) (fun k => ?_) (Ev.step (f := fun k => vernierlaw24_PivotGreatest.l0 k C ((F + P : Nat) : Int) F M N l) (fun k => ?_) L)
        · simp only [vernierlaw24_PivotGreatest.j0]
          rw [if_neg (by decide), if_neg (by omega), if_neg (by omega), if_neg (by omega), if_neg (by omega), decide_eq_false (by omega)]
        · simp only [vernierlaw24_PivotGreatest.j1]
          rw [if_neg (by decide)]
    · simp only [if_neg g, if_neg (show ¬ (4 : Int) = 0 by decide)]; exact J _
  · simp only [if_neg h, if_neg (show ¬ (11 : Int) = 0 by decide)]; exact J _
theorem PivotGreatest_walk (W : World) (m n : Int) (A : Option Addr) (c : Nat) (l : List Int) (_wm : (Lit.int .i64 m).wf = true) (_wn : (Lit.int .i64 n).wf = true) (hr : Kd.C (Kd.int .u64) W A l.length l) (hc : l.length ≤ c) (_hm : l.length ≤ maxLen) (hw : ∀ x ∈ l, (Lit.int .u64 x).wf = true) (col : Int) (_wc : (Lit.int .i64 col).wf = true) (f : Int) (_wf : (Lit.int .i64 f).wf = true) :
    Calls Try.prog 5 #[.agg #[.int .i64 m, .int .i64 n, .slice A l.length c], .int .i64 col, .int .i64 f] W fun e w' => e = .returned (.bool true) ∧ Below W.heap.size W w' := by
  obtain ⟨k, h⟩ := (PivotGreatest_pure m n (u64s_of hw) col f).rounds
  exact (vernierlaw24_PivotGreatest.calls k m n A c l col f true W hr hc h).mono fun e w' h => h
end Go.Proofs.Ytceghmceoliplaa.Pure
