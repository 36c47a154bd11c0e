/- PartsTells: any bits' class, and what they are apart, infinite ones, zeros, are as the page says. For every word and sign. -/
import Derived.Test.YtklkebbdjppnkaaPPartsTellsx1
import Derived.Laws.BitsLemmas
import Derived.Laws.BitsAllLaws
namespace Go.Proofs.Ytklkebbdjppnkaa.Pure
open Go.RowKit Go.Proofs.Ytklkebbdjppnkaa.PPartsTells Go.Proofs.YtklkebbdjppnkaaW.PrintWords Go.Proofs.YtklkebbdjppnkaaW.PrintLast Go.Proofs.YtklkebbdjppnkaaW.PrintMore
-- Words of 64 bits: masks and joins.
theorem wraps_u64 (n : Int) (h₀ : 0 ≤ n) (h₁ : n < 2 ^ 64) : IntKind.u64.wrap n = n := by rw [IntKind.wrap_u64]; omega
theorem mask64 (i : Nat) (hi : i ≤ 64) (x : Int) (h0 : 0 ≤ x) (h1 : x < 18446744073709551616) : Go.bits .and .u64 x (2 ^ i - 1) = x % 2 ^ i :=
  bits_mask .u64 64 (by decide) wraps_u64 i hi x h0 (by omega)
theorem and2047 {x : Int} (h0 : 0 ≤ x) (h1 : x < 18446744073709551616) : Go.bits .and .u64 x 2047 = x % 2048 := by have := mask64 11 (by omega) x h0 h1; simpa using this
theorem and52 {x : Int} (h0 : 0 ≤ x) (h1 : x < 18446744073709551616) : Go.bits .and .u64 x 4503599627370495 = x % 4503599627370496 := by have := mask64 52 (by omega) x h0 h1; simpa using this
theorem and1_u64 {x : Int} (h0 : 0 ≤ x) (h1 : x < 18446744073709551616) : Go.bits .and .u64 x 1 = x % 2 := by have := mask64 1 (by omega) x h0 h1; simpa using this
theorem and63 {x : Int} (h0 : 0 ≤ x) (h1 : x < 18446744073709551616) : Go.bits .and .u64 x 9223372036854775808 = x / 9223372036854775808 * 9223372036854775808 := by
  obtain ⟨a, rfl⟩ := Int.eq_ofNat_of_zero_le h0
  have h := u64_and_nat a 9223372036854775808 (by omega) (by omega)
  rw [show ((9223372036854775808 : Nat) : Int) = 9223372036854775808 from rfl] at h
  rw [h, nat_hi64_63]; omega
theorem or64_join (i : Nat) (y x : Int) (hy : 0 ≤ y) (hy' : y < 2 ^ i) (hx : 0 ≤ x) (hx' : x % 2 ^ i = 0) (h1 : y < 18446744073709551616) (h2 : x < 18446744073709551616) : Go.bits .or .u64 y x = y + x ∧ Go.bits .or .u64 x y = x + y := by
  have h := bits_join .u64 64 (by decide) wraps_u64 i x y hx hx' (by omega) hy hy' (by omega)
  refine ⟨?_, h⟩
  obtain ⟨a, rfl⟩ := Int.eq_ofNat_of_zero_le hy
  obtain ⟨b, rfl⟩ := Int.eq_ofNat_of_zero_le hx
  rw [u64_or_nat b a (by omega) (by omega)] at h
  rw [u64_or_nat a b (by omega) (by omega), Nat.or_comm, h]; omega
theorem or52 {y : Int} (h0 : 0 ≤ y) (h1 : y < 4503599627370496) : Go.bits .or .u64 y 4503599627370496 = y + 4503599627370496 :=
  (or64_join 52 y 4503599627370496 h0 (by omega) (by omega) (by decide) (by omega) (by omega)).1
-- Whole numbers that fit; places in a matrix; lists made of a function.
theorem w64 {x : Int} (h0 : -9223372036854775808 ≤ x) (h1 : x < 9223372036854775808) : wrap64 x = x := by unfold wrap64; omega
theorem wN (n : Nat) (h : n < 9223372036854775808) : wrap64 (n : Int) = (n : Int) := w64 (by omega) (by omega)
theorem wmul (a b : Nat) (h : a * b < 9223372036854775808) : wrap64 ((a : Int) * (b : Int)) = ((a * b : Nat) : Int) := by rw [← Int.natCast_mul]; exact wN _ h
theorem wadd (a b : Nat) (h : a + b < 9223372036854775808) : wrap64 ((a : Int) + (b : Int)) = ((a + b : Nat) : Int) := by rw [← Int.natCast_add]; exact wN _ h
theorem wsucc (a : Nat) (h : a + 1 < 9223372036854775808) : wrap64 ((a : Int) + 1) = ((a + 1 : Nat) : Int) := wadd a 1 h
theorem place_lt {i j r c : Nat} (hi : i < r) (hj : j < c) : i * c + j < r * c := by
  have : (i + 1) * c ≤ r * c := Nat.mul_le_mul_right c hi
  rw [Nat.add_mul, Nat.one_mul] at this; omega
theorem place_div {i j c : Nat} (hj : j < c) : (i * c + j) / c = i := by
  rw [Nat.mul_comm, Nat.mul_add_div (by omega), Nat.div_eq_of_lt hj, Nat.add_zero]
theorem place_mod {i j c : Nat} (hj : j < c) : (i * c + j) % c = j := by
  rw [Nat.mul_comm, Nat.mul_add_mod, Nat.mod_eq_of_lt hj]
theorem place_of (k c : Nat) : k / c * c + k % c = k := by rw [Nat.mul_comm]; exact Nat.div_add_mod k c
theorem div_lt_of {k r c : Nat} (h : k < r * c) : k / c < r := Nat.div_lt_of_lt_mul (by rw [Nat.mul_comm]; exact h)
theorem mod_lt_of {k r c : Nat} (h : k < r * c) : k % c < c := Nat.mod_lt _ (by rcases Nat.eq_zero_or_pos c with rfl | h' <;> omega)
def mk (n : Nat) (f : Nat → Int) : List Int := (List.range n).map f
theorem mk_len (n : Nat) (f : Nat → Int) : (mk n f).length = n := by simp [mk]
theorem mk_get (n : Nat) (f : Nat → Int) (k : Nat) (h : k < n) : (mk n f).getD k 0 = f k := by
  simp [mk, List.getD_eq_getElem?_getD, h]
theorem rd_mk (n : Nat) (f : Nat → Int) (k : Nat) (h : k < n) : rd (mk n f) (k : Int) = f k := mk_get n f k h
theorem rd_nat (l : List Int) (k : Nat) : rd l (k : Int) = l.getD k 0 := rfl
theorem mk_congr {n : Nat} {f g : Nat → Int} (h : ∀ k, k < n → f k = g k) : mk n f = mk n g := List.map_congr_left (fun k hk => h k (List.mem_range.1 hk))
theorem mk_set (n : Nat) (f : Nat → Int) (p : Nat) (v : Int) : (mk n f).set p v = mk n (fun k => if k = p then v else f k) := by
  apply List.ext_getElem
  · simp [mk]
  · intro i h1 h2
    simp only [mk, List.length_set, List.length_map, List.length_range] at h1
    rw [List.getElem_set]
    simp only [mk, List.getElem_map, List.getElem_range]
    by_cases e : p = i
    · subst e; simp
    · rw [if_neg e, if_neg (fun h => e h.symm)]
theorem mk_const (n : Nat) (v : Int) : List.replicate n v = mk n (fun _ => v) := by
  apply List.ext_getElem
  · simp [mk]
  · intro i h1 h2; simp [mk]
theorem mk_self (l : List Int) : mk l.length (fun k => l.getD k 0) = l := by
  apply List.ext_getElem
  · simp [mk]
  · intro i h1 h2
    simp only [mk, List.getElem_map, List.getElem_range]
    rw [List.getD_eq_getElem?_getD, List.getElem?_eq_getElem h2]; rfl
theorem mk_eq {n : Nat} {f : Nat → Int} {l : List Int} (hl : l.length = n) (h : ∀ k, k < n → l.getD k 0 = f k) : l = mk n f := by
  subst hl
  exact (mk_self l).symm.trans (mk_congr h)
theorem Ev.no {α : Type} {g : Nat → Option α} {r : α} (h : ∀ k, g (k + 1) = some r) : Ev g r := Ev.step (f := fun _ => some r) h (Ev.now r)
-- A binary64 number's parts, and what the printed functions of them come to.
def E (a : Int) : Int := a / 4503599627370496 % 2048
def F (a : Int) : Int := a % 4503599627370496
def cls (a : Int) : Int := if E a = 2047 then (if F a = 0 then 2 else 3) else if E a = 0 ∧ F a = 0 then 0 else 1
def sg (a : Int) : Int := if E a = 0 then F a else F a + 4503599627370496
def ex (a : Int) : Int := if E a = 0 then -1074 else E a - 1075
def neg (a : Int) : Bool := decide (a ≥ 9223372036854775808)
theorem E_bd (a : Int) : 0 ≤ E a ∧ E a < 2048 := by unfold E; omega
theorem F_bd (a : Int) : 0 ≤ F a ∧ F a < 4503599627370496 := by unfold F; omega
theorem u64_bd {a : Int} (h : (Lit.int .u64 a).wf = true) : 0 ≤ a ∧ a < 18446744073709551616 := by
  have := (by simpa [Lit.wf, IntKind.min, IntKind.max, IntKind.bits, IntKind.signed] using h : 0 ≤ a ∧ a ≤ 18446744073709551615); omega
theorem i64_bd {a : Int} (h : (Lit.int .i64 a).wf = true) : -9223372036854775808 ≤ a ∧ a < 9223372036854775808 := by
  have := (by simpa [Lit.wf, IntKind.min, IntKind.max, IntKind.bits, IntKind.signed] using h : -9223372036854775808 ≤ a ∧ a ≤ 9223372036854775807); omega
theorem expo {a : Int} (h0 : 0 ≤ a) (h1 : a < 18446744073709551616) : Go.bits .and .u64 (a / 4503599627370496) 2047 = E a := and2047 (by omega) (by omega)
theorem refE {a : Int} (h0 : 0 ≤ a) (h1 : a < 18446744073709551616) : Int.tmod (IntKind.u64.wrap (Int.tdiv a 4503599627370496)) 2048 = E a := by
  rw [Int.tdiv_eq_ediv_of_nonneg h0, wraps_u64 _ (by omega) (by omega), Int.tmod_eq_emod_of_nonneg (by omega)]; rfl
theorem refF {a : Int} (h0 : 0 ≤ a) : Int.tmod a 4503599627370496 = F a := by rw [Int.tmod_eq_emod_of_nonneg h0]; rfl
theorem class_ev {a : Int} (h0 : 0 ≤ a) (h1 : a < 18446744073709551616) : Ev (fun k => parts_Class.f k a) (cls a) := by
  have hf := F_bd a
  have key : ∀ x, Ev (fun k => parts_Class.j0 k (E a) (F a) x) (if x = true then 3 else if E a = 2047 then 2 else if E a = 0 ∧ F a = 0 then 0 else 1) := fun x => by
    refine Ev.no (fun k => ?_)
    simp only [parts_Class.j0]
    by_cases hx : x = true
    · rw [if_pos hx, if_pos hx]
    rw [if_neg hx, if_neg hx]
    by_cases h2 : E a = 2047
    · rw [if_pos h2, if_pos h2]
    rw [if_neg h2, if_neg h2]
    by_cases h3 : E a = 0
    · rw [if_pos h3]
      by_cases h4 : F a = 0
      · rw [if_pos h4, if_pos ⟨h3, h4⟩]
      · rw [if_neg h4, if_neg (fun h => h4 h.2)]
    · rw [if_neg h3, if_neg (fun h => h3 h.1)]
  refine Ev.congr (f := fun k => parts_Class.j0 k (E a) (F a) (decide (E a = 2047 ∧ F a ≠ 0))) (fun k => ?_) ?_
  · unfold parts_Class.f
    rw [expo h0 h1, and52 h0 h1]
    by_cases h2 : E a = 2047
    · rw [if_pos h2]; congr 1
      rw [Bool.eq_iff_iff]; simp [h2]; rfl
    · rw [if_neg h2]; simp [h2]; rfl
  · have := key (decide (E a = 2047 ∧ F a ≠ 0))
    unfold cls
    by_cases h2 : E a = 2047
    · by_cases h3 : F a = 0
      · simp [h2, h3] at this ⊢; exact this
      · simp [h2, h3] at this ⊢; exact this
    · simp [h2] at this ⊢; exact this
theorem rclass_ev {a : Int} (h0 : 0 ≤ a) (h1 : a < 18446744073709551616) : Ev (fun k => vernierref06_Class.f k a) (cls a) := by
  have hf := F_bd a
  have key : ∀ x, Ev (fun k => vernierref06_Class.j0 k (E a) (F a) x) (if x = true then 3 else if E a = 2047 then 2 else if E a = 0 ∧ F a = 0 then 0 else 1) := fun x => by
    refine Ev.no (fun k => ?_)
    simp only [vernierref06_Class.j0]
    by_cases hx : x = true
    · rw [if_pos hx, if_pos hx]
    rw [if_neg hx, if_neg hx]
    by_cases h2 : E a = 2047
    · rw [if_pos h2, if_pos h2]
    rw [if_neg h2, if_neg h2]
    by_cases h3 : E a = 0
    · rw [if_pos h3]
      by_cases h4 : F a = 0
      · rw [if_pos h4, if_pos ⟨h3, h4⟩]
      · rw [if_neg h4, if_neg (fun h => h4 h.2)]
    · rw [if_neg h3, if_neg (fun h => h3 h.1)]
  refine Ev.congr (f := fun k => vernierref06_Class.j0 k (E a) (F a) (decide (E a = 2047 ∧ F a > 0))) (fun k => ?_) ?_
  · unfold vernierref06_Class.f
    rw [refE h0 h1, refF h0]
    by_cases h2 : E a = 2047
    · rw [if_pos h2]; congr 1
      rw [Bool.eq_iff_iff]; simp [h2]
    · rw [if_neg h2]; simp [h2]
  · have := key (decide (E a = 2047 ∧ F a > 0))
    unfold cls
    by_cases h2 : E a = 2047
    · by_cases h3 : F a = 0
      · simp [h2, h3] at this ⊢; exact this
      · have h4 : 0 < F a := by omega
        simp [h2, h3, h4] at this ⊢; exact this
    · simp [h2] at this ⊢; exact this
theorem negb {a : Int} (h0 : 0 ≤ a) (h1 : a < 18446744073709551616) : (Go.bits .and .u64 a 9223372036854775808 != 0) = neg a := by
  rw [and63 h0 h1]; unfold neg
  rw [Bool.eq_iff_iff, bne_iff_ne, decide_eq_true_iff]; omega
theorem split_eq {a : Int} (h0 : 0 ≤ a) (h1 : a < 18446744073709551616) : parts_Split.f a = some (if E a = 2047 then (false, 0, 0, 23) else (neg a, sg a, ex a, 0)) := by
  have he := E_bd a
  have hf := F_bd a
  unfold parts_Split.f
  rw [expo h0 h1, w64 (by omega) (by omega), negb h0 h1, and52 h0 h1]
  by_cases h2 : E a = 2047
  · rw [if_pos h2, if_pos h2]
  · rw [if_neg h2, if_neg h2]
    unfold sg ex
    by_cases h3 : E a = 0
    · rw [if_pos h3, if_pos h3, if_pos h3]; rfl
    · rw [if_neg h3, if_neg h3, if_neg h3, or52 (by omega) (by omega), w64 (by omega) (by omega)]; rfl
theorem rsplit_eq {a : Int} (h0 : 0 ≤ a) (h1 : a < 18446744073709551616) : vernierref06_Split.f a = some (neg a, sg a, if E a = 0 then -1074 else E a - 1075) := by
  have he := E_bd a
  have hf := F_bd a
  unfold vernierref06_Split.f
  rw [refE h0 h1, w64 (by omega) (by omega), refF h0]
  unfold sg
  by_cases h3 : E a = 0
  · rw [if_pos h3, if_pos h3, if_pos h3]; rfl
  · rw [if_neg h3, if_neg h3, if_neg h3, wraps_u64 _ (by omega) (by omega), w64 (by omega) (by omega)]; rfl
theorem zero_eq (b : Bool) : parts_Zero.f b = some (if b then 9223372036854775808 else 0) := by cases b <;> rfl
theorem rzero_eq (b : Bool) : vernierref06_Zero.f b = some (if b then 9223372036854775808 else 0) := by cases b <;> rfl
theorem tail_ev {a : Int} (h0 : 0 ≤ a) (h1 : a < 18446744073709551616) (b : Bool) : Ev (fun k => vernierlaw06_PartsTells.j0 k a b (cls a)) true := by
  refine Ev.step (f := fun k => (parts_Class.f k a).bind fun t => if t = cls a then some true else some false) (fun k => ?_) (Ev.bind (class_ev h0 h1) ?_)
  · simp only [vernierlaw06_PartsTells.j0]
    congr 1; funext t
    have hi : parts_Inf.f b = vernierref06_Inf.f b ∧ ∃ r, parts_Inf.f b = some r := by cases b <;> exact ⟨by decide +kernel, _, rfl⟩
    obtain ⟨r, hr⟩ := hi.2
    rw [← hi.1, hr, zero_eq, rzero_eq]
    simp only [Option.bind_some, if_true]
    rw [show vernierlaw06_alive.f = some true by decide +kernel]
    rfl
  · simp only [if_true]; exact Ev.now _
theorem PartsTells : vernierlaw06_PartsTells.Pure := by
  intro a b ha
  obtain ⟨h0, h1⟩ := u64_bd ha
  refine Ev.rounds ?_
  refine Ev.bind (rclass_ev h0 h1) ?_
  rw [split_eq h0 h1]
  simp only [Option.bind_some]
  have tl := tail_ev h0 h1 b
  by_cases h2 : E a = 2047
  · have hc : cls a > 1 := by unfold cls; rw [if_pos h2]; split <;> omega
    simp only [if_pos h2, if_pos hc, if_true]
    simpa using tl
  · have hc : ¬ cls a > 1 := by unfold cls; rw [if_neg h2]; split <;> omega
    simp only [if_neg h2, if_neg hc, rsplit_eq h0 h1, Option.bind_some, if_true, bne_self_eq_false]
    simpa [ex] using tl
end Go.Proofs.Ytklkebbdjppnkaa.Pure
