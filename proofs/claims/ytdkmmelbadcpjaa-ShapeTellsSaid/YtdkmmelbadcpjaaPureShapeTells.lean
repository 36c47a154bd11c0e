/- ShapeTells: which matrices may be, which are finite, which are alike, and any place's word, are as the page says. For any two matrices and any place. -/
import Derived.Test.YtdkmmelbadcpjaaPShapeTellsx3
import Derived.Test.YtdkmmelbadcpjaaPShapeTellsx4
import Derived.Laws.BitsLemmas
import Derived.Laws.BitsAllLaws
namespace Go.Proofs.Ytdkmmelbadcpjaa.Pure
open Go.RowKit Go.Proofs.Ytdkmmelbadcpjaa.PShapeTells Go.Proofs.YtdkmmelbadcpjaaW.PrintWords Go.Proofs.YtdkmmelbadcpjaaW.PrintLast Go.Proofs.YtdkmmelbadcpjaaW.PrintMore
-- Whole numbers that fit; places in a matrix; lists made of a function.
theorem w64 {x : Int} (h0 : -9223372036854775808 ≤ x) (h1 : x < 9223372036854775808) : wrap64 x = x := by unfold wrap64; omega
theorem wN (n : Nat) (h : n < 9223372036854775808) : wrap64 (n : Int) = (n : Int) := w64 (by omega) (by omega)
theorem wmul (a b : Nat) (h : a * b < 9223372036854775808) : wrap64 ((a : Int) * (b : Int)) = ((a * b : Nat) : Int) := by rw [← Int.natCast_mul]; exact wN _ h
theorem wadd (a b : Nat) (h : a + b < 9223372036854775808) : wrap64 ((a : Int) + (b : Int)) = ((a + b : Nat) : Int) := by rw [← Int.natCast_add]; exact wN _ h
theorem wsucc (a : Nat) (h : a + 1 < 9223372036854775808) : wrap64 ((a : Int) + 1) = ((a + 1 : Nat) : Int) := wadd a 1 h
theorem place_lt {i j r c : Nat} (hi : i < r) (hj : j < c) : i * c + j < r * c := by
  have : (i + 1) * c ≤ r * c := Nat.mul_le_mul_right c hi
  rw [Nat.add_mul, Nat.one_mul] at this; omega
theorem place_div {i j c : Nat} (hj : j < c) : (i * c + j) / c = i := by
  rw [Nat.mul_comm, Nat.mul_add_div (by omega), Nat.div_eq_of_lt hj, Nat.add_zero]
theorem place_mod {i j c : Nat} (hj : j < c) : (i * c + j) % c = j := by
  rw [Nat.mul_comm, Nat.mul_add_mod, Nat.mod_eq_of_lt hj]
theorem place_of (k c : Nat) : k / c * c + k % c = k := by rw [Nat.mul_comm]; exact Nat.div_add_mod k c
theorem div_lt_of {k r c : Nat} (h : k < r * c) : k / c < r := Nat.div_lt_of_lt_mul (by rw [Nat.mul_comm]; exact h)
theorem mod_lt_of {k r c : Nat} (h : k < r * c) : k % c < c := Nat.mod_lt _ (by rcases Nat.eq_zero_or_pos c with rfl | h' <;> omega)
def mk (n : Nat) (f : Nat → Int) : List Int := (List.range n).map f
theorem mk_len (n : Nat) (f : Nat → Int) : (mk n f).length = n := by simp [mk]
theorem mk_get (n : Nat) (f : Nat → Int) (k : Nat) (h : k < n) : (mk n f).getD k 0 = f k := by
  simp [mk, List.getD_eq_getElem?_getD, h]
theorem rd_mk (n : Nat) (f : Nat → Int) (k : Nat) (h : k < n) : rd (mk n f) (k : Int) = f k := mk_get n f k h
theorem rd_nat (l : List Int) (k : Nat) : rd l (k : Int) = l.getD k 0 := rfl
theorem mk_congr {n : Nat} {f g : Nat → Int} (h : ∀ k, k < n → f k = g k) : mk n f = mk n g := List.map_congr_left (fun k hk => h k (List.mem_range.1 hk))
theorem mk_set (n : Nat) (f : Nat → Int) (p : Nat) (v : Int) : (mk n f).set p v = mk n (fun k => if k = p then v else f k) := by
  apply List.ext_getElem
  · simp [mk]
  · intro i h1 h2
    simp only [mk, List.length_set, List.length_map, List.length_range] at h1
    rw [List.getElem_set]
    simp only [mk, List.getElem_map, List.getElem_range]
    by_cases e : p = i
    · subst e; simp
    · rw [if_neg e, if_neg (fun h => e h.symm)]
theorem mk_const (n : Nat) (v : Int) : List.replicate n v = mk n (fun _ => v) := by
  apply List.ext_getElem
  · simp [mk]
  · intro i h1 h2; simp [mk]
theorem mk_self (l : List Int) : mk l.length (fun k => l.getD k 0) = l := by
  apply List.ext_getElem
  · simp [mk]
  · intro i h1 h2
    simp only [mk, List.getElem_map, List.getElem_range]
    rw [List.getD_eq_getElem?_getD, List.getElem?_eq_getElem h2]; rfl
theorem mk_eq {n : Nat} {f : Nat → Int} {l : List Int} (hl : l.length = n) (h : ∀ k, k < n → l.getD k 0 = f k) : l = mk n f := by
  subst hl
  exact (mk_self l).symm.trans (mk_congr h)
theorem Ev.no {α : Type} {g : Nat → Option α} {r : α} (h : ∀ k, g (k + 1) = some r) : Ev g r := Ev.step (f := fun _ => some r) h (Ev.now r)
-- Words of 64 bits: masks and joins.
theorem wraps_u64 (n : Int) (h₀ : 0 ≤ n) (h₁ : n < 2 ^ 64) : IntKind.u64.wrap n = n := by rw [IntKind.wrap_u64]; omega
theorem mask64 (i : Nat) (hi : i ≤ 64) (x : Int) (h0 : 0 ≤ x) (h1 : x < 18446744073709551616) : Go.bits .and .u64 x (2 ^ i - 1) = x % 2 ^ i :=
  bits_mask .u64 64 (by decide) wraps_u64 i hi x h0 (by omega)
theorem and2047 {x : Int} (h0 : 0 ≤ x) (h1 : x < 18446744073709551616) : Go.bits .and .u64 x 2047 = x % 2048 := by have := mask64 11 (by omega) x h0 h1; simpa using this
theorem and52 {x : Int} (h0 : 0 ≤ x) (h1 : x < 18446744073709551616) : Go.bits .and .u64 x 4503599627370495 = x % 4503599627370496 := by have := mask64 52 (by omega) x h0 h1; simpa using this
theorem and1_u64 {x : Int} (h0 : 0 ≤ x) (h1 : x < 18446744073709551616) : Go.bits .and .u64 x 1 = x % 2 := by have := mask64 1 (by omega) x h0 h1; simpa using this
theorem and63 {x : Int} (h0 : 0 ≤ x) (h1 : x < 18446744073709551616) : Go.bits .and .u64 x 9223372036854775808 = x / 9223372036854775808 * 9223372036854775808 := by
  obtain ⟨a, rfl⟩ := Int.eq_ofNat_of_zero_le h0
  have h := u64_and_nat a 9223372036854775808 (by omega) (by omega)
  rw [show ((9223372036854775808 : Nat) : Int) = 9223372036854775808 from rfl] at h
  rw [h, nat_hi64_63]; omega
theorem or64_join (i : Nat) (y x : Int) (hy : 0 ≤ y) (hy' : y < 2 ^ i) (hx : 0 ≤ x) (hx' : x % 2 ^ i = 0) (h1 : y < 18446744073709551616) (h2 : x < 18446744073709551616) : Go.bits .or .u64 y x = y + x ∧ Go.bits .or .u64 x y = x + y := by
  have h := bits_join .u64 64 (by decide) wraps_u64 i x y hx hx' (by omega) hy hy' (by omega)
  refine ⟨?_, h⟩
  obtain ⟨a, rfl⟩ := Int.eq_ofNat_of_zero_le hy
  obtain ⟨b, rfl⟩ := Int.eq_ofNat_of_zero_le hx
  rw [u64_or_nat b a (by omega) (by omega)] at h
  rw [u64_or_nat a b (by omega) (by omega), Nat.or_comm, h]; omega
theorem or52 {y : Int} (h0 : 0 ≤ y) (h1 : y < 4503599627370496) : Go.bits .or .u64 y 4503599627370496 = y + 4503599627370496 :=
  (or64_join 52 y 4503599627370496 h0 (by omega) (by omega) (by decide) (by omega) (by omega)).1
-- A binary64 number's parts, and what the printed functions of them come to.
def E (a : Int) : Int := a / 4503599627370496 % 2048
def F (a : Int) : Int := a % 4503599627370496
def cls (a : Int) : Int := if E a = 2047 then (if F a = 0 then 2 else 3) else if E a = 0 ∧ F a = 0 then 0 else 1
def sg (a : Int) : Int := if E a = 0 then F a else F a + 4503599627370496
def ex (a : Int) : Int := if E a = 0 then -1074 else E a - 1075
def neg (a : Int) : Bool := decide (a ≥ 9223372036854775808)
theorem E_bd (a : Int) : 0 ≤ E a ∧ E a < 2048 := by unfold E; omega
theorem F_bd (a : Int) : 0 ≤ F a ∧ F a < 4503599627370496 := by unfold F; omega
theorem u64_bd {a : Int} (h : (Lit.int .u64 a).wf = true) : 0 ≤ a ∧ a < 18446744073709551616 := by
  have := (by simpa [Lit.wf, IntKind.min, IntKind.max, IntKind.bits, IntKind.signed] using h : 0 ≤ a ∧ a ≤ 18446744073709551615); omega
theorem i64_bd {a : Int} (h : (Lit.int .i64 a).wf = true) : -9223372036854775808 ≤ a ∧ a < 9223372036854775808 := by
  have := (by simpa [Lit.wf, IntKind.min, IntKind.max, IntKind.bits, IntKind.signed] using h : -9223372036854775808 ≤ a ∧ a ≤ 9223372036854775807); omega
theorem expo {a : Int} (h0 : 0 ≤ a) (h1 : a < 18446744073709551616) : Go.bits .and .u64 (a / 4503599627370496) 2047 = E a := and2047 (by omega) (by omega)
theorem refE {a : Int} (h0 : 0 ≤ a) (h1 : a < 18446744073709551616) : Int.tmod (IntKind.u64.wrap (Int.tdiv a 4503599627370496)) 2048 = E a := by
  rw [Int.tdiv_eq_ediv_of_nonneg h0, wraps_u64 _ (by omega) (by omega), Int.tmod_eq_emod_of_nonneg (by omega)]; rfl
theorem refF {a : Int} (h0 : 0 ≤ a) : Int.tmod a 4503599627370496 = F a := by rw [Int.tmod_eq_emod_of_nonneg h0]; rfl
theorem class_ev {a : Int} (h0 : 0 ≤ a) (h1 : a < 18446744073709551616) : Ev (fun k => parts_Class.f k a) (cls a) := by
  have hf := F_bd a
  have key : ∀ x, Ev (fun k => parts_Class.j0 k (E a) (F a) x) (if x = true then 3 else if E a = 2047 then 2 else if E a = 0 ∧ F a = 0 then 0 else 1) := fun x => by
    refine Ev.no (fun k => ?_)
    simp only [parts_Class.j0]
    by_cases hx : x = true
    · rw [if_pos hx, if_pos hx]
    rw [if_neg hx, if_neg hx]
    by_cases h2 : E a = 2047
    · rw [if_pos h2, if_pos h2]
    rw [if_neg h2, if_neg h2]
    by_cases h3 : E a = 0
    · rw [if_pos h3]
      by_cases h4 : F a = 0
      · rw [if_pos h4, if_pos ⟨h3, h4⟩]
      · rw [if_neg h4, if_neg (fun h => h4 h.2)]
    · rw [if_neg h3, if_neg (fun h => h3 h.1)]
  refine Ev.congr (f := fun k => parts_Class.j0 k (E a) (F a) (decide (E a = 2047 ∧ F a ≠ 0))) (fun k => ?_) ?_
  · unfold parts_Class.f
    rw [expo h0 h1, and52 h0 h1]
    by_cases h2 : E a = 2047
    · rw [if_pos h2]; congr 1
      rw [Bool.eq_iff_iff]; simp [h2]; rfl
    · rw [if_neg h2]; simp [h2]; rfl
  · have := key (decide (E a = 2047 ∧ F a ≠ 0))
    unfold cls
    by_cases h2 : E a = 2047
    · by_cases h3 : F a = 0
      · simp [h2, h3] at this ⊢; exact this
      · simp [h2, h3] at this ⊢; exact this
    · simp [h2] at this ⊢; exact this
theorem rclass_ev {a : Int} (h0 : 0 ≤ a) (h1 : a < 18446744073709551616) : Ev (fun k => vernierref06_Class.f k a) (cls a) := by
  have hf := F_bd a
  have key : ∀ x, Ev (fun k => vernierref06_Class.j0 k (E a) (F a) x) (if x = true then 3 else if E a = 2047 then 2 else if E a = 0 ∧ F a = 0 then 0 else 1) := fun x => by
    refine Ev.no (fun k => ?_)
    simp only [vernierref06_Class.j0]
    by_cases hx : x = true
    · rw [if_pos hx, if_pos hx]
    rw [if_neg hx, if_neg hx]
    by_cases h2 : E a = 2047
    · rw [if_pos h2, if_pos h2]
    rw [if_neg h2, if_neg h2]
    by_cases h3 : E a = 0
    · rw [if_pos h3]
      by_cases h4 : F a = 0
      · rw [if_pos h4, if_pos ⟨h3, h4⟩]
      · rw [if_neg h4, if_neg (fun h => h4 h.2)]
    · rw [if_neg h3, if_neg (fun h => h3 h.1)]
  refine Ev.congr (f := fun k => vernierref06_Class.j0 k (E a) (F a) (decide (E a = 2047 ∧ F a > 0))) (fun k => ?_) ?_
  · unfold vernierref06_Class.f
    rw [refE h0 h1, refF h0]
    by_cases h2 : E a = 2047
    · rw [if_pos h2]; congr 1
      rw [Bool.eq_iff_iff]; simp [h2]
    · rw [if_neg h2]; simp [h2]
  · have := key (decide (E a = 2047 ∧ F a > 0))
    unfold cls
    by_cases h2 : E a = 2047
    · by_cases h3 : F a = 0
      · simp [h2, h3] at this ⊢; exact this
      · have h4 : 0 < F a := by omega
        simp [h2, h3, h4] at this ⊢; exact this
    · simp [h2] at this ⊢; exact this
theorem same_l (a b : List Int) (hl : a.length = b.length) (hm : a.length ≤ 9223372036854775807) (d : Nat) : ∀ i : Nat, i + d = a.length → Ev (fun k => vernierref01_Same.l0 k a b i) (decide (a.drop i = b.drop i)) := by
  induction d with
  | zero =>
    intro i hi
    refine Ev.no (fun k => ?_)
    simp only [vernierref01_Same.l0]; rw [if_neg (by omega), List.drop_of_length_le (by omega), List.drop_of_length_le (by omega)]; rfl
  | succ d ih =>
    intro i hi
    have h1 : i < a.length := by omega
    have h2 : i < b.length := by omega
    have e1 : a.drop i = a.getD i 0 :: a.drop (i + 1) := by rw [List.getD_eq_getElem?_getD, List.getElem?_eq_getElem h1, List.drop_eq_getElem_cons h1]; rfl
    have e2 : b.drop i = b.getD i 0 :: b.drop (i + 1) := by rw [List.getD_eq_getElem?_getD, List.getElem?_eq_getElem h2, List.drop_eq_getElem_cons h2]; rfl
    have hs : ∀ k, vernierref01_Same.l0 (k + 1) a b i = if a.getD i 0 = b.getD i 0 then vernierref01_Same.l0 k a b ((i + 1 : Nat) : Int) else some false := fun k => by
      simp only [vernierref01_Same.l0]; rw [if_pos (by omega), if_pos (by omega), if_pos (by omega), rd_nat, rd_nat, wsucc _ (by omega)]
    by_cases e : a.getD i 0 = b.getD i 0
    · refine Ev.step (f := fun k => vernierref01_Same.l0 k a b ((i + 1 : Nat) : Int)) (fun k => by rw [hs, if_pos e]) ?_
      have := ih (i + 1) (by omega)
      rw [e1, e2, e]
      simpa using this
    · refine Ev.no (fun k => ?_)
      rw [hs, if_neg e, e1, e2, decide_eq_false (fun h => e (List.cons.inj h).1)]
theorem same_ev (a b : List Int) (hm : a.length ≤ 9223372036854775807) : Ev (fun k => vernierref01_Same.f k a b) (decide (a = b)) := by
  by_cases h : a.length = b.length
  · refine Ev.congr (f := fun k => vernierref01_Same.l0 k a b ((0 : Nat) : Int)) (fun k => ?_) ?_
    · unfold vernierref01_Same.f; rw [if_pos (by omega)]; rfl
    · simpa using same_l a b h hm a.length 0 (by omega)
  · refine Ev.congr (f := fun _ => some false) (fun k => ?_) ?_
    · unfold vernierref01_Same.f; rw [if_neg (by omega)]
    · rw [decide_eq_false (fun e => h (by rw [e]))]; exact Ev.now _
-- What the printed functions of the package shape come to.
def okMat (m n : Int) (l : List Int) : Prop := 1 ≤ m ∧ m ≤ 64 ∧ 1 ≤ n ∧ n ≤ 64 ∧ (l.length : Int) = m * n
instance (m n : Int) (l : List Int) : Decidable (okMat m n l) := by unfold okMat; infer_instance
theorem prod_le {m n : Int} (h0 : 1 ≤ m) (h1 : m ≤ 64) (h2 : 1 ≤ n) (h3 : n ≤ 64) : 1 ≤ m * n ∧ m * n ≤ 4096 := by
  constructor
  · have := Int.mul_le_mul h0 h2 (by omega) (by omega); omega
  · have := Int.mul_le_mul h1 h3 (by omega) (by omega); omega
theorem wprod {m n : Int} (h0 : 1 ≤ m) (h1 : m ≤ 64) (h2 : 1 ≤ n) (h3 : n ≤ 64) : wrap64 (m * n) = m * n := by
  have := prod_le h0 h1 h2 h3; exact w64 (by omega) (by omega)
theorem side_eq (n : Int) : shape_side.f n = some (decide (1 ≤ n ∧ n ≤ 64)) := by
  unfold shape_side.f
  by_cases h : n ≥ 1
  · rw [if_pos h]; congr 1; rw [decide_eq_decide]; omega
  · rw [if_neg h]; congr 1; rw [eq_comm, decide_eq_false_iff_not]; omega
theorem check_eq (m n : Int) (l : List Int) : shape_Check.f m n l = some (if okMat m n l then 0 else 11) := by
  unfold shape_Check.f
  rw [side_eq, Option.bind_some]
  by_cases h1 : 1 ≤ m ∧ m ≤ 64
  · rw [decide_eq_true h1, if_pos rfl, side_eq, Option.bind_some]
    by_cases h2 : 1 ≤ n ∧ n ≤ 64
    · rw [decide_eq_true h2, if_pos rfl, wprod h1.1 h1.2 h2.1 h2.2]
      by_cases h3 : (l.length : Int) = m * n
      · rw [if_pos h3, if_pos (show okMat m n l from ⟨h1.1, h1.2, h2.1, h2.2, h3⟩)]
      · rw [if_neg h3, if_neg (fun h : okMat m n l => h3 h.2.2.2.2)]
    · rw [decide_eq_false h2, if_neg (by decide), if_neg (fun h : okMat m n l => h2 ⟨h.2.2.1, h.2.2.2.1⟩)]
  · rw [decide_eq_false h1, if_neg (by decide), if_neg (fun h : okMat m n l => h1 ⟨h.1, h.2.1⟩)]
-- shape.Finite, with the function that it hands on.
def U64s (l : List Int) : Prop := ∀ x ∈ l, 0 ≤ x ∧ x < 18446744073709551616
theorem u64s_of {l : List Int} (h : ∀ x ∈ l, (Lit.int .u64 x).wf = true) : U64s l := fun x hx => u64_bd (h x hx)
theorem u64s_get {l : List Int} (h : U64s l) (i : Nat) : 0 ≤ l.getD i 0 ∧ l.getD i 0 < 18446744073709551616 := by
  rw [List.getD_eq_getElem?_getD]
  by_cases g : i < l.length
  · rw [List.getElem?_eq_getElem g]; exact h _ (List.getElem_mem g)
  · rw [List.getElem?_eq_none (by omega)]; simp
def badF (l : List Int) : Bool := l.any (fun a => decide (cls a > 1))
theorem fin1_ev {a : Int} (h0 : 0 ≤ a) (h1 : a < 18446744073709551616) : Ev (fun k => shape_Finite_1.f k a) (decide (cls a > 1)) := by
  unfold shape_Finite_1.f
  exact Ev.bind (class_ev h0 h1) (Ev.now _)
theorem contains_l {l : List Int} (hl : U64s l) (hm : l.length ≤ 9223372036854775807) (d : Nat) : ∀ i : Nat, i + d = l.length → Ev (fun k => slices_ContainsFunc_uint64_uint64.l0 k l i) (badF (l.drop i)) := by
  induction d with
  | zero =>
    intro i hi
    refine Ev.no (fun k => ?_)
    simp only [slices_ContainsFunc_uint64_uint64.l0]
    rw [if_neg (by omega), List.drop_of_length_le (by omega)]; rfl
  | succ d ih =>
    intro i hi
    have h1 : i < l.length := by omega
    have e1 : l.drop i = l.getD i 0 :: l.drop (i + 1) := by rw [List.getD_eq_getElem?_getD, List.getElem?_eq_getElem h1, List.drop_eq_getElem_cons h1]; rfl
    obtain ⟨b0, b1⟩ := u64s_get hl i
    refine Ev.step (f := fun k => (shape_Finite_1.f k (l.getD i 0)).bind fun t => if t = true then (some true) else (slices_ContainsFunc_uint64_uint64.l0 k l ((i + 1 : Nat) : Int))) (fun k => ?_) (Ev.bind (fin1_ev b0 b1) ?_)
    · simp only [slices_ContainsFunc_uint64_uint64.l0]
      rw [if_pos (by omega), if_pos (by omega), rd_nat, wsucc _ (by omega)]
    · rw [e1]
      unfold badF
      rw [List.any_cons]
      by_cases g : cls (l.getD i 0) > 1
      · rw [decide_eq_true g]; simp only [if_true, Bool.true_or]; exact Ev.now _
      · rw [decide_eq_false g]; simp only [if_neg (show ¬ (false = true) by decide), Bool.false_or]; exact ih (i + 1) (by omega)
theorem contains_ev {l : List Int} (hl : U64s l) (hm : l.length ≤ 9223372036854775807) : Ev (fun k => slices_ContainsFunc_uint64_uint64.f k l) (badF l) := contains_l hl hm l.length 0 (by omega)
theorem finite_ev (m n : Int) {l : List Int} (hl : U64s l) (hm : l.length ≤ 9223372036854775807) : Ev (fun k => shape_Finite.f k m n l) (if okMat m n l then (if badF l then 12 else 0) else 11) := by
  unfold shape_Finite.f
  rw [check_eq]
  simp only [Option.bind_some]
  by_cases h : okMat m n l
  · simp only [if_pos h, if_true]
    refine Ev.bind (contains_ev hl hm) ?_
    cases badF l <;> exact Ev.now _
  · simp only [if_neg h, if_neg (show ¬ (11 : Int) = 0 by decide)]; exact Ev.now _
theorem equal_l (a b : List Int) (hl : a.length = b.length) (hm : a.length ≤ 9223372036854775807) (d : Nat) : ∀ i : Nat, i + d = a.length → Ev (fun k => slices_Equal_uint64_uint64.l0 k a b (a.length : Int) i) (decide (a.drop i = b.drop i)) := by
  induction d with
  | zero =>
    intro i hi
    refine Ev.no (fun k => ?_)
    simp only [slices_Equal_uint64_uint64.l0]; rw [if_neg (by omega), List.drop_of_length_le (by omega), List.drop_of_length_le (by omega)]; rfl
  | succ d ih =>
    intro i hi
    have h1 : i < a.length := by omega
    have h2 : i < b.length := by omega
    have e1 : a.drop i = a.getD i 0 :: a.drop (i + 1) := by rw [List.getD_eq_getElem?_getD, List.getElem?_eq_getElem h1, List.drop_eq_getElem_cons h1]; rfl
    have e2 : b.drop i = b.getD i 0 :: b.drop (i + 1) := by rw [List.getD_eq_getElem?_getD, List.getElem?_eq_getElem h2, List.drop_eq_getElem_cons h2]; rfl
    have hs : ∀ k, slices_Equal_uint64_uint64.l0 (k + 1) a b (a.length : Int) i = if a.getD i 0 = b.getD i 0 then slices_Equal_uint64_uint64.l0 k a b (a.length : Int) ((i + 1 : Nat) : Int) else some false := fun k => by
      simp only [slices_Equal_uint64_uint64.l0]; rw [if_pos (by omega), if_pos (by omega), if_pos (by omega), if_pos (by omega), rd_nat, rd_nat, wsucc _ (by omega)]
    by_cases e : a.getD i 0 = b.getD i 0
    · refine Ev.step (f := fun k => slices_Equal_uint64_uint64.l0 k a b (a.length : Int) ((i + 1 : Nat) : Int)) (fun k => by rw [hs, if_pos e]) ?_
      have := ih (i + 1) (by omega)
      rw [e1, e2, e]
      simpa using this
    · refine Ev.no (fun k => ?_)
      rw [hs, if_neg e, e1, e2, decide_eq_false (fun h => e (List.cons.inj h).1)]
theorem equal_ev (a b : List Int) (hm : a.length ≤ 9223372036854775807) : Ev (fun k => slices_Equal_uint64_uint64.f k a b) (decide (a = b)) := by
  by_cases h : a.length = b.length
  · refine Ev.congr (f := fun k => slices_Equal_uint64_uint64.l0 k a b (a.length : Int) ((0 : Nat) : Int)) (fun k => ?_) ?_
    · unfold slices_Equal_uint64_uint64.f; rw [if_pos (by omega)]; rfl
    · simpa using equal_l a b h hm a.length 0 (by omega)
  · refine Ev.congr (f := fun _ => some false) (fun k => ?_) ?_
    · unfold slices_Equal_uint64_uint64.f; rw [if_neg (by omega)]
    · rw [decide_eq_false (fun e => h (by rw [e]))]; exact Ev.now _
theorem shape_same_ev (m n : Int) (a : List Int) (m' n' : Int) (b : List Int) (hm : a.length ≤ 9223372036854775807) : Ev (fun k => shape_Same.f k m n a m' n' b) (decide (m = m' ∧ n = n' ∧ a = b)) := by
  unfold shape_Same.f
  by_cases h1 : m = m'
  · by_cases h2 : n = n'
    · simp only [if_pos h1, if_pos h2]
      rw [show decide (m = m' ∧ n = n' ∧ a = b) = decide (a = b) by rw [decide_eq_decide]; exact ⟨fun h => h.2.2, fun h => ⟨h1, h2, h⟩⟩]
      exact Ev.bind (equal_ev a b hm) (Ev.now _)
    · simp only [if_pos h1, if_neg h2]; rw [decide_eq_false (fun h => h2 h.2.1)]; exact Ev.now _
  · simp only [if_neg h1]; rw [decide_eq_false (fun h => h1 h.1)]; exact Ev.now _
theorem alive14 : Ev (fun k => vernierlaw14_alive.f k) true := Ev.of vernierlaw14_alive.mono (k := 4) (by decide +kernel)
theorem may_eq (m n : Int) (l : List Int) : vernierlaw14_may.f m n l = some (decide (okMat m n l)) := by
  unfold vernierlaw14_may.f
  by_cases a : m ≥ 1
  · by_cases b : m ≤ 64
    · by_cases c : n ≥ 1
      · by_cases d : n ≤ 64
        · rw [if_pos a, if_pos b, if_pos c, if_pos d, wprod a b c d]; congr 1
          by_cases e : (l.length : Int) = m * n
          · rw [beq_iff_eq.mpr e, decide_eq_true (show okMat m n l from ⟨a, b, c, d, e⟩)]
          · rw [beq_eq_false_iff_ne.mpr e, decide_eq_false (fun h : okMat m n l => e h.2.2.2.2)]
        · rw [if_pos a, if_pos b, if_pos c, if_neg d, decide_eq_false (fun h : okMat m n l => d h.2.2.2.1)]
      · rw [if_pos a, if_pos b, if_neg c, decide_eq_false (fun h : okMat m n l => c h.2.2.1)]
    · rw [if_pos a, if_neg b, decide_eq_false (fun h : okMat m n l => b h.2.1)]
  · rw [if_neg a, decide_eq_false (fun h : okMat m n l => a h.1)]
theorem law_same_ev (m n : Int) (a : List Int) (m' n' : Int) (b : List Int) (hm : a.length ≤ 9223372036854775807) : Ev (fun k => vernierlaw14_same.f k m n a m' n' b) (decide (m = m' ∧ n = n' ∧ a = b)) := by
  unfold vernierlaw14_same.f
  by_cases h1 : m = m'
  · by_cases h2 : n = n'
    · simp only [if_pos h1, if_pos h2]
      rw [show decide (m = m' ∧ n = n' ∧ a = b) = decide (a = b) by rw [decide_eq_decide]; exact ⟨fun h => h.2.2, fun h => ⟨h1, h2, h⟩⟩]
      exact Ev.bind (same_ev a b hm) (Ev.now _)
    · simp only [if_pos h1, if_neg h2]; rw [decide_eq_false (fun h => h2 h.2.1)]; exact Ev.now _
  · simp only [if_neg h1]; rw [decide_eq_false (fun h => h1 h.1)]; exact Ev.now _
theorem ShapeTellsA_pure (m n : Int) {l : List Int} (hl : U64s l) (hm : l.length ≤ 9223372036854775807) (h : ¬ okMat m n l) (m' n' : Int) (b : List Int) (i j : Int) : Ev (fun k => vernierlaw14_ShapeTellsA.f k m n l m' n' b i j) true := by
  unfold vernierlaw14_ShapeTellsA.f
  have hat : shape_At.f m n l i j = some (0, 11) := by unfold shape_At.f; rw [check_eq, if_neg h]; rfl
  have F := finite_ev m n hl hm
  rw [if_neg h] at F
  rw [may_eq, decide_eq_false h, hat, check_eq, if_neg h]
  simp only [Option.bind_some, if_neg (show ¬ (false = true) by decide), if_true]
  refine Ev.bind F ?_
  simp only [if_true]
  refine Ev.bind (shape_same_ev m n l m' n' b hm) (Ev.bind (law_same_ev m n l m' n' b hm) ?_)
  simp only [beq_self_eq_true, if_true]
  exact Ev.bind alive14 (Ev.now _)
theorem ShapeTellsB_j (m n : Int) {l : List Int} (hl : U64s l) (hm : l.length ≤ 9223372036854775807) (h : okMat m n l) (m' n' : Int) (b : List Int) (i j x e : Int) (hat : shape_At.f m n l i j = some (x, e)) :
    Ev (fun k => vernierlaw14_ShapeTellsB.j1 k i j 0 (if badF l then 12 else 0) x e m n l m' n' b) true := by
  have F := finite_ev m n hl hm
  rw [if_pos h] at F
  refine Ev.step (f := fun k => (shape_At.f m n l i j).bind fun bt161 => ((shape_Check.f m n l).bind fun t163 => (if t163 = 0 then ((shape_Finite.f k m n l).bind fun t164 => (if t164 = (if badF l then 12 else 0) then ((shape_Same.f k m n l m' n' b).bind fun t165 => ((vernierlaw14_same.f k m n l m' n' b).bind fun t166 => (if (t165 == t166) = true then (if bt161.1 = x then (if bt161.2 = e then ((vernierlaw14_alive.f k).bind fun t167 => (some t167)) else (some false)) else (some false)) else (some false)))) else (some false))) else (some false)))) (fun k => by simp only [vernierlaw14_ShapeTellsB.j1]) ?_
  rw [hat, check_eq, if_pos h]
  simp only [Option.bind_some, if_true]
  refine Ev.bind F ?_
  simp only [if_true]
  refine Ev.bind (shape_same_ev m n l m' n' b hm) (Ev.bind (law_same_ev m n l m' n' b hm) ?_)
  simp only [beq_self_eq_true, if_true]
  exact Ev.bind alive14 (Ev.now _)
theorem ShapeTellsB_l (m n : Int) {l : List Int} (hl : U64s l) (hm : l.length ≤ 9223372036854775807) (h : okMat m n l) (m' n' : Int) (b : List Int) (i j : Int) (d : Nat) : ∀ t : Nat, t + d = l.length →
    Ev (fun k => vernierlaw14_ShapeTellsB.l0 k i j 0 (if badF (l.take t) then 12 else 0) 0 0 t m n l m' n' b) true := by
  have hpr := prod_le h.1 h.2.1 h.2.2.1 h.2.2.2.1
  induction d with
  | zero =>
    intro t ht
    have J := ShapeTellsB_j m n hl hm h m' n' b i j
    rw [List.take_of_length_le (by omega)]
    by_cases g1 : i < 0
    · refine Ev.step (f := fun k => vernierlaw14_ShapeTellsB.j1 k i j 0 (if badF l then 12 else 0) 0 4 m n l m' n' b) (fun k => ?_) (J 0 4 ?_)
      · simp only [vernierlaw14_ShapeTellsB.l0]; rw [if_neg (by omega), if_pos g1]
      · unfold shape_At.f; rw [check_eq, if_pos h]; simp only [Option.bind_some, if_true]; rw [if_pos g1]
    by_cases g2 : i ≥ m
    · refine Ev.step (f := fun k => vernierlaw14_ShapeTellsB.j1 k i j 0 (if badF l then 12 else 0) 0 4 m n l m' n' b) (fun k => ?_) (J 0 4 ?_)
      · simp only [vernierlaw14_ShapeTellsB.l0]; rw [if_neg (by omega), if_neg g1, if_pos g2]
      · unfold shape_At.f; rw [check_eq, if_pos h]; simp only [Option.bind_some, if_true]; rw [if_neg g1, if_pos g2]
    by_cases g3 : j < 0
    · refine Ev.step (f := fun k => vernierlaw14_ShapeTellsB.j1 k i j 0 (if badF l then 12 else 0) 0 4 m n l m' n' b) (fun k => ?_) (J 0 4 ?_)
      · simp only [vernierlaw14_ShapeTellsB.l0]; rw [if_neg (by omega), if_neg g1, if_neg g2, if_pos g3]
      · unfold shape_At.f; rw [check_eq, if_pos h]; simp only [Option.bind_some, if_true]; rw [if_neg g1, if_neg g2, if_pos g3]
    by_cases g4 : j ≥ n
    · refine Ev.step (f := fun k => vernierlaw14_ShapeTellsB.j1 k i j 0 (if badF l then 12 else 0) 0 4 m n l m' n' b) (fun k => ?_) (J 0 4 ?_)
      · simp only [vernierlaw14_ShapeTellsB.l0]; rw [if_neg (by omega), if_neg g1, if_neg g2, if_neg g3, if_pos g4]
      · unfold shape_At.f; rw [check_eq, if_pos h]; simp only [Option.bind_some, if_true]; rw [if_neg g1, if_neg g2, if_neg g3, if_pos g4]
    obtain ⟨h1, h2, h3, h4, h5⟩ := h
    obtain ⟨M, rfl⟩ := Int.eq_ofNat_of_zero_le (show 0 ≤ m by omega)
    obtain ⟨N, rfl⟩ := Int.eq_ofNat_of_zero_le (show 0 ≤ n by omega)
    obtain ⟨I, rfl⟩ := Int.eq_ofNat_of_zero_le (show 0 ≤ i by omega)
    obtain ⟨C, rfl⟩ := Int.eq_ofNat_of_zero_le (show 0 ≤ j by omega)
    have hlen : l.length = M * N := by exact_mod_cast h5
    have hp := place_lt (i := I) (j := C) (r := M) (c := N) (by omega) (by omega)
    have hb : M * N ≤ 64 * 64 := Nat.mul_le_mul (by omega) (by omega)
    refine Ev.step (f := fun k => vernierlaw14_ShapeTellsB.j1 k I C 0 (if badF l then 12 else 0) (rd l ((I * N + C : Nat) : Int)) 0 M N l m' n' b) (fun k => ?_) (J _ _ ?_)
    · simp only [vernierlaw14_ShapeTellsB.l0]
      rw [if_neg (by omega), if_neg g1, if_neg g2, if_neg g3, if_neg g4, wmul I N (by omega), wadd _ _ (by omega), if_pos (by omega), if_pos (by omega)]
    · unfold shape_At.f
      rw [check_eq, if_pos ⟨h1, h2, h3, h4, h5⟩]
      simp only [Option.bind_some, if_true]
      rw [if_neg g1, if_neg g2, if_neg g3, if_neg g4, wmul I N (by omega), wadd _ _ (by omega), if_pos (by omega), if_pos (by omega)]
  | succ d ih =>
    intro t ht
    have ht1 : t < l.length := by omega
    obtain ⟨b0, b1⟩ := u64s_get hl t
    have htk : badF (l.take (t + 1)) = (badF (l.take t) || decide (cls (l.getD t 0) > 1)) := by
      unfold badF
      rw [List.take_succ_eq_append_getElem ht1, List.any_append, List.getD_eq_getElem?_getD, List.getElem?_eq_getElem ht1]; simp
    have I := ih (t + 1) (by omega)
    rw [htk] at I
    refine Ev.step (f := fun k => (vernierref06_Class.f k (l.getD t 0)).bind fun t159 => (if t159 > 1 then (vernierlaw14_ShapeTellsB.l0 k i j 0 12 0 0 ((t + 1 : Nat) : Int) m n l m' n' b) else (vernierlaw14_ShapeTellsB.l0 k i j 0 (if badF (l.take t) then 12 else 0) 0 0 ((t + 1 : Nat) : Int) m n l m' n' b))) (fun k => ?_) (Ev.bind (rclass_ev b0 b1) ?_)
    · simp only [vernierlaw14_ShapeTellsB.l0]
      rw [if_pos (by omega), if_pos (by omega), rd_nat, wsucc _ (by omega)]
    · by_cases g : cls (l.getD t 0) > 1
      · simp only [if_pos g]; rw [decide_eq_true g, Bool.or_true] at I; exact I
      · simp only [if_neg g]; rw [decide_eq_false g, Bool.or_false] at I; exact I
theorem ShapeTells_walk (W : World) (m n : Int) (A : Option Addr) (c : Nat) (l : List Int) (_wm : (Lit.int .i64 m).wf = true) (_wn : (Lit.int .i64 n).wf = true) (hr : Kd.C (Kd.int .u64) W A l.length l) (hc : l.length ≤ c) (hm : l.length ≤ maxLen) (hw : ∀ x ∈ l, (Lit.int .u64 x).wf = true)
    (m' n' : Int) (A' : Option Addr) (c' : Nat) (b : List Int) (_wm' : (Lit.int .i64 m').wf = true) (_wn' : (Lit.int .i64 n').wf = true) (hr' : Kd.C (Kd.int .u64) W A' b.length b) (hc' : b.length ≤ c') (_hm' : b.length ≤ maxLen) (_hw' : ∀ x ∈ b, (Lit.int .u64 x).wf = true)
    (i : Int) (_wi : (Lit.int .i64 i).wf = true) (j : Int) (_wj : (Lit.int .i64 j).wf = true) :
    Calls Try.prog 10 #[.agg #[.int .i64 m, .int .i64 n, .slice A l.length c], .agg #[.int .i64 m', .int .i64 n', .slice A' b.length c'], .int .i64 i, .int .i64 j] W fun e w' => e = .returned (.bool true) ∧ Below W.heap.size W w' := by
  have hl := u64s_of hw
  by_cases h : okMat m n l
  · have hm2 : l.length ≤ 9223372036854775807 := by unfold maxLen at hm; omega
    have P := ShapeTellsB_l m n hl hm2 h m' n' b i j l.length 0 (by omega)
    obtain ⟨k, hk⟩ := P.rounds
    refine (vernierlaw14_ShapeTellsB.calls k m n A c l m' n' A' c' b i j true W hr hc hr' hc' ?_).mono fun e w' h => h
    unfold vernierlaw14_ShapeTellsB.f
    rw [may_eq, decide_eq_true h]
    exact hk
  · obtain ⟨k, hk⟩ := (ShapeTellsA_pure m n hl (by unfold maxLen at hm; omega) h m' n' b i j).rounds
    exact (vernierlaw14_ShapeTellsA.calls k m n A c l m' n' A' c' b i j true W hr hc hr' hc' hk).mono fun e w' h => h
end Go.Proofs.Ytdkmmelbadcpjaa.Pure
