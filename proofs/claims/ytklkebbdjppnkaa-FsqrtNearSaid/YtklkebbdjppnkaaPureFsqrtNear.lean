import Derived.Test.YtklkebbdjppnkaaPFsqrtNearx8
import Derived.Laws.BitsLemmas
import Derived.Laws.BitsAllLaws
namespace Go.Proofs.Ytklkebbdjppnkaa.Pure
open Go.RowKit Go.Proofs.Ytklkebbdjppnkaa.PFsqrtNear Go.Proofs.YtklkebbdjppnkaaW.PrintWords Go.Proofs.YtklkebbdjppnkaaW.PrintLast Go.Proofs.YtklkebbdjppnkaaW.PrintMore
-- Whole numbers that fit; places in a matrix; lists made of a function.
theorem w64 {x : Int} (h0 : -9223372036854775808 ≤ x) (h1 : x < 9223372036854775808) : wrap64 x = x := by unfold wrap64; omega
theorem wN (n : Nat) (h : n < 9223372036854775808) : wrap64 (n : Int) = (n : Int) := w64 (by omega) (by omega)
theorem wmul (a b : Nat) (h : a * b < 9223372036854775808) : wrap64 ((a : Int) * (b : Int)) = ((a * b : Nat) : Int) := by rw [← Int.natCast_mul]; exact wN _ h
theorem wadd (a b : Nat) (h : a + b < 9223372036854775808) : wrap64 ((a : Int) + (b : Int)) = ((a + b : Nat) : Int) := by rw [← Int.natCast_add]; exact wN _ h
theorem wsucc (a : Nat) (h : a + 1 < 9223372036854775808) : wrap64 ((a : Int) + 1) = ((a + 1 : Nat) : Int) := wadd a 1 h
theorem place_lt {i j r c : Nat} (hi : i < r) (hj : j < c) : i * c + j < r * c := by
  have : (i + 1) * c ≤ r * c := Nat.mul_le_mul_right c hi
  rw [Nat.add_mul, Nat.one_mul] at this; omega
theorem place_div {i j c : Nat} (hj : j < c) : (i * c + j) / c = i := by
  rw [Nat.mul_comm, Nat.mul_add_div (by omega), Nat.div_eq_of_lt hj, Nat.add_zero]
theorem place_mod {i j c : Nat} (hj : j < c) : (i * c + j) % c = j := by
  rw [Nat.mul_comm, Nat.mul_add_mod, Nat.mod_eq_of_lt hj]
theorem place_of (k c : Nat) : k / c * c + k % c = k := by rw [Nat.mul_comm]; exact Nat.div_add_mod k c
theorem div_lt_of {k r c : Nat} (h : k < r * c) : k / c < r := Nat.div_lt_of_lt_mul (by rw [Nat.mul_comm]; exact h)
theorem mod_lt_of {k r c : Nat} (h : k < r * c) : k % c < c := Nat.mod_lt _ (by rcases Nat.eq_zero_or_pos c with rfl | h' <;> omega)
def mk (n : Nat) (f : Nat → Int) : List Int := (List.range n).map f
theorem mk_len (n : Nat) (f : Nat → Int) : (mk n f).length = n := by simp [mk]
theorem mk_get (n : Nat) (f : Nat → Int) (k : Nat) (h : k < n) : (mk n f).getD k 0 = f k := by
  simp [mk, List.getD_eq_getElem?_getD, h]
theorem rd_mk (n : Nat) (f : Nat → Int) (k : Nat) (h : k < n) : rd (mk n f) (k : Int) = f k := mk_get n f k h
theorem rd_nat (l : List Int) (k : Nat) : rd l (k : Int) = l.getD k 0 := rfl
theorem mk_congr {n : Nat} {f g : Nat → Int} (h : ∀ k, k < n → f k = g k) : mk n f = mk n g := List.map_congr_left (fun k hk => h k (List.mem_range.1 hk))
theorem mk_set (n : Nat) (f : Nat → Int) (p : Nat) (v : Int) : (mk n f).set p v = mk n (fun k => if k = p then v else f k) := by
  apply List.ext_getElem
  · simp [mk]
  · intro i h1 h2
    simp only [mk, List.length_set, List.length_map, List.length_range] at h1
    rw [List.getElem_set]
    simp only [mk, List.getElem_map, List.getElem_range]
    by_cases e : p = i
    · subst e; simp
    · rw [if_neg e, if_neg (fun h => e h.symm)]
theorem mk_const (n : Nat) (v : Int) : List.replicate n v = mk n (fun _ => v) := by
  apply List.ext_getElem
  · simp [mk]
  · intro i h1 h2; simp [mk]
theorem mk_self (l : List Int) : mk l.length (fun k => l.getD k 0) = l := by
  apply List.ext_getElem
  · simp [mk]
  · intro i h1 h2
    simp only [mk, List.getElem_map, List.getElem_range]
    rw [List.getD_eq_getElem?_getD, List.getElem?_eq_getElem h2]; rfl
theorem mk_eq {n : Nat} {f : Nat → Int} {l : List Int} (hl : l.length = n) (h : ∀ k, k < n → l.getD k 0 = f k) : l = mk n f := by
  subst hl
  exact (mk_self l).symm.trans (mk_congr h)
theorem Ev.no {α : Type} {g : Nat → Option α} {r : α} (h : ∀ k, g (k + 1) = some r) : Ev g r := Ev.step (f := fun _ => some r) h (Ev.now r)
-- Words of 64 bits: masks and joins.
theorem wraps_u64 (n : Int) (h₀ : 0 ≤ n) (h₁ : n < 2 ^ 64) : IntKind.u64.wrap n = n := by rw [IntKind.wrap_u64]; omega
theorem mask64 (i : Nat) (hi : i ≤ 64) (x : Int) (h0 : 0 ≤ x) (h1 : x < 18446744073709551616) : Go.bits .and .u64 x (2 ^ i - 1) = x % 2 ^ i :=
  bits_mask .u64 64 (by decide) wraps_u64 i hi x h0 (by omega)
theorem and2047 {x : Int} (h0 : 0 ≤ x) (h1 : x < 18446744073709551616) : Go.bits .and .u64 x 2047 = x % 2048 := by have := mask64 11 (by omega) x h0 h1; simpa using this
theorem and52 {x : Int} (h0 : 0 ≤ x) (h1 : x < 18446744073709551616) : Go.bits .and .u64 x 4503599627370495 = x % 4503599627370496 := by have := mask64 52 (by omega) x h0 h1; simpa using this
theorem and1_u64 {x : Int} (h0 : 0 ≤ x) (h1 : x < 18446744073709551616) : Go.bits .and .u64 x 1 = x % 2 := by have := mask64 1 (by omega) x h0 h1; simpa using this
theorem and63 {x : Int} (h0 : 0 ≤ x) (h1 : x < 18446744073709551616) : Go.bits .and .u64 x 9223372036854775808 = x / 9223372036854775808 * 9223372036854775808 := by
  obtain ⟨a, rfl⟩ := Int.eq_ofNat_of_zero_le h0
  have h := u64_and_nat a 9223372036854775808 (by omega) (by omega)
  rw [show ((9223372036854775808 : Nat) : Int) = 9223372036854775808 from rfl] at h
  rw [h, nat_hi64_63]; omega
theorem or64_join (i : Nat) (y x : Int) (hy : 0 ≤ y) (hy' : y < 2 ^ i) (hx : 0 ≤ x) (hx' : x % 2 ^ i = 0) (h1 : y < 18446744073709551616) (h2 : x < 18446744073709551616) : Go.bits .or .u64 y x = y + x ∧ Go.bits .or .u64 x y = x + y := by
  have h := bits_join .u64 64 (by decide) wraps_u64 i x y hx hx' (by omega) hy hy' (by omega)
  refine ⟨?_, h⟩
  obtain ⟨a, rfl⟩ := Int.eq_ofNat_of_zero_le hy
  obtain ⟨b, rfl⟩ := Int.eq_ofNat_of_zero_le hx
  rw [u64_or_nat b a (by omega) (by omega)] at h
  rw [u64_or_nat a b (by omega) (by omega), Nat.or_comm, h]; omega
theorem or52 {y : Int} (h0 : 0 ≤ y) (h1 : y < 4503599627370496) : Go.bits .or .u64 y 4503599627370496 = y + 4503599627370496 :=
  (or64_join 52 y 4503599627370496 h0 (by omega) (by omega) (by decide) (by omega) (by omega)).1
-- Naturals as digits of 16 bits, the lowest first, none 0 at the end: plainly.
def nd (a : Nat) : Nat := if h : a = 0 then 0 else nd (a / 65536) + 1
termination_by a
decreasing_by omega
theorem nd_zero : nd 0 = 0 := by rw [nd]; rfl
theorem nd_pos {a : Nat} (h : a ≠ 0) : nd a = nd (a / 65536) + 1 := by rw [nd]; simp [h]
theorem B_pos (n : Nat) : 0 < 65536 ^ n := Nat.pow_pos (by omega)
theorem lt_nd : ∀ a : Nat, a < 65536 ^ nd a := by
  intro a
  induction a using Nat.strongRecOn with
  | _ a ih =>
    by_cases h : a = 0
    · subst h; rw [nd_zero]; decide
    · rw [nd_pos h, Nat.pow_succ]
      have := ih (a / 65536) (by omega)
      omega
theorem le_nd {a : Nat} (h : a ≠ 0) : 65536 ^ (nd a - 1) ≤ a := by
  induction a using Nat.strongRecOn with
  | _ a ih =>
    rw [nd_pos h, Nat.add_sub_cancel]
    by_cases g : a / 65536 = 0
    · rw [g, nd_zero]; simp; omega
    · have h1 := ih (a / 65536) (by omega) g
      have h2 : nd (a / 65536) = nd (a / 65536) - 1 + 1 := by rw [nd_pos g]; omega
      rw [h2, Nat.pow_succ]; omega
theorem nd_lt {a n : Nat} (h : a < 65536 ^ n) : nd a ≤ n := by
  by_cases g : a = 0
  · subst g; rw [nd_zero]; omega
  · have := Nat.lt_of_le_of_lt (le_nd g) h
    have := (Nat.pow_lt_pow_iff_right (a := 65536) (by omega)).1 this
    omega
theorem nd_gt {a n : Nat} (h : 65536 ^ n ≤ a) : n < nd a := (Nat.pow_lt_pow_iff_right (a := 65536) (by omega)).1 (Nat.lt_of_le_of_lt h (lt_nd a))
theorem nd_mono {a b : Nat} (h : a ≤ b) : nd a ≤ nd b := nd_lt (Nat.lt_of_le_of_lt h (lt_nd b))
def dig (a i : Nat) : Nat := a / 65536 ^ i % 65536
theorem dig_lt (a i : Nat) : dig a i < 65536 := Nat.mod_lt _ (by omega)
theorem dig_big {a i : Nat} (h : a < 65536 ^ i) : dig a i = 0 := by unfold dig; rw [Nat.div_eq_of_lt h]
def toN (a : Nat) : List Int := mk (nd a) (fun i => (dig a i : Int))
theorem toN_len (a : Nat) : (toN a).length = nd a := mk_len _ _
theorem toN_get (a i : Nat) : (toN a).getD i 0 = (dig a i : Int) := by
  by_cases h : i < nd a
  · exact mk_get _ _ _ h
  · rw [List.getD_eq_getElem?_getD, List.getElem?_eq_none (by rw [toN_len]; omega), dig_big (Nat.lt_of_lt_of_le (lt_nd a) (Nat.pow_le_pow_right (by omega) (by omega)))]; rfl
theorem rd_toN (a i : Nat) : rd (toN a) (i : Int) = (dig a i : Int) := toN_get a i
theorem toN_zero : toN 0 = [] := by unfold toN; rw [nd_zero]; rfl
theorem toN_nil {a : Nat} : (toN a).length = 0 ↔ a = 0 := by
  rw [toN_len]
  constructor
  · intro h
    have := lt_nd a
    rw [h] at this; simpa using this
  · intro h; subst h; exact nd_zero
theorem toN_one : toN 1 = [1] := by unfold toN; rw [nd_pos (by omega), show 1 / 65536 = 0 from rfl, nd_zero]; rfl
theorem mk_take {m n : Nat} (f : Nat → Int) (h : n ≤ m) : (mk m f).take n = mk n f := by
  unfold mk
  rw [← List.map_take, List.take_range, Nat.min_eq_left h]
theorem mk_snoc (n : Nat) (f : Nat → Int) : mk n f ++ [f n] = mk (n + 1) f := by
  unfold mk; rw [List.range_succ, List.map_append]; rfl
/-- The digits below a place. -/
theorem mod_step (a i : Nat) : a % 65536 ^ (i + 1) = a % 65536 ^ i + dig a i * 65536 ^ i := by
  unfold dig; rw [Nat.pow_succ, Nat.mod_mul]; rw [Nat.mul_comm (65536 ^ i)]
theorem div_step (a i : Nat) : a / 65536 ^ i = a / 65536 ^ (i + 1) * 65536 + dig a i := by
  unfold dig; rw [Nat.pow_succ, ← Nat.div_div_eq_div_mul]
  have := Nat.div_add_mod (a / 65536 ^ i) 65536; omega
theorem mod_nd (a n : Nat) (h : nd a ≤ n) : a % 65536 ^ n = a := Nat.mod_eq_of_lt (Nat.lt_of_lt_of_le (lt_nd a) (Nat.pow_le_pow_right (by omega) h))
theorem big17 {n : Nat} (h : n ≤ 100000) : n < 17592186044416 := Nat.lt_of_le_of_lt h (by decide)
theorem big35 {n : Nat} (h : n ≤ 100000) : n ≤ 35184372088832 := Nat.le_trans h (by decide)
theorem cut_l (m s : Nat) (hm : m ≤ 100000) : ∀ n : Nat, n ≤ m → s < 65536 ^ n → Ev (fun k => vernierref01_cut.l0 k (mk m (fun i => (dig s i : Int))) n) (toN s) := by
  intro n
  induction n with
  | zero =>
    intro _ hs
    refine Ev.no (fun k => ?_)
    obtain rfl : s = 0 := by simpa using hs
    simp only [vernierref01_cut.l0]; rw [if_neg (by omega), if_pos (by omega), if_pos (by omega), toN_zero]; rfl
  | succ n ih =>
    intro hn hs
    have hw : wrap64 (((n + 1 : Nat) : Int) - 1) = (n : Int) := by rw [w64 (by omega) (by omega)]; omega
    by_cases hd : dig s n = 0
    · refine Ev.step (f := fun k => vernierref01_cut.l0 k (mk m (fun i => (dig s i : Int))) n) (fun k => ?_) (ih (by omega) ?_)
      · simp only [vernierref01_cut.l0]
        rw [if_pos (by omega), hw, if_pos (by omega), if_pos (by rw [mk_len]; omega), rd_mk _ _ _ (by omega), hd, if_pos (show ((0 : Nat) : Int) = 0 from rfl)]
      · have := mod_step s n
        rw [Nat.mod_eq_of_lt hs, hd, Nat.zero_mul] at this
        rw [this]; exact Nat.mod_lt _ (B_pos n)
    · refine Ev.no (fun k => ?_)
      simp only [vernierref01_cut.l0]
      rw [if_pos (by omega), hw, if_pos (by omega), if_pos (by rw [mk_len]; omega), rd_mk _ _ _ (by omega), if_neg (by omega), if_pos (by omega), if_pos (by rw [mk_len]; omega), Int.toNat_natCast, mk_take _ hn]
      have h1 : 65536 ^ n ≤ s := by
        by_cases g : 65536 ^ n ≤ s
        · exact g
        · exact absurd (dig_big (by omega)) hd
      have h2 : nd s = n + 1 := by have := nd_lt hs; have := nd_gt h1; omega
      unfold toN; rw [h2]
theorem cut_ev (m s : Nat) (hm : m ≤ 100000) (hs : s < 65536 ^ m) : Ev (fun k => vernierref01_cut.f k (mk m (fun i => (dig s i : Int)))) (toN s) := by
  have := cut_l m s hm m (Nat.le_refl _) hs
  unfold vernierref01_cut.f
  rw [mk_len]; exact this
theorem limb_dig (y j : Nat) (h : j < 4) : y % 18446744073709551616 / 65536 ^ j % 65536 = y / 65536 ^ j % 65536 := by
  rcases (by omega : j = 0 ∨ j = 1 ∨ j = 2 ∨ j = 3) with rfl | rfl | rfl | rfl
  all_goals simp only [Nat.reducePow]; omega
theorem of_inner (l : List Int) (v : Nat) (hl : l.length ≤ 100) (i y : Nat) (hy : y < 18446744073709551616) (hv : v / 65536 ^ (4 * i) % 18446744073709551616 = y) (hi : i < l.length) (R : List Int)
    (next : Ev (fun k => vernierref01_Of.l0 k l (mk (4 * (i + 1)) (fun i => (dig v i : Int))) ((i + 1 : Nat) : Int)) R) (d : Nat) :
    ∀ j : Nat, j + d = 4 → Ev (fun k => vernierref01_Of.l1 k l (mk (4 * i + j) (fun i => (dig v i : Int))) i ((y / 65536 ^ j : Nat) : Int) j) R := by
  induction d with
  | zero =>
    intro j hj
    obtain rfl : j = 4 := by omega
    refine Ev.step (f := fun k => vernierref01_Of.l0 k l (mk (4 * (i + 1)) (fun i => (dig v i : Int))) ((i + 1 : Nat) : Int)) (fun k => ?_) next
    simp only [vernierref01_Of.l1]; rw [if_neg (by omega), wsucc _ (by omega)]; rfl
  | succ d ih =>
    intro j hj
    refine Ev.step (f := fun k => vernierref01_Of.l1 k l (mk (4 * i + (j + 1)) (fun i => (dig v i : Int))) i ((y / 65536 ^ (j + 1) : Nat) : Int) ((j + 1 : Nat) : Int)) (fun k => ?_) (ih (j + 1) (by omega))
    have hd : dig v (4 * i + j) = y / 65536 ^ j % 65536 := by
      unfold dig
      rw [Nat.pow_add, ← Nat.div_div_eq_div_mul, ← hv, limb_dig _ _ (by omega)]
    have hq : y / 65536 ^ j < 18446744073709551616 := Nat.lt_of_le_of_lt (Nat.div_le_self _ _) hy
    simp only [vernierref01_Of.l1]
    rw [if_pos (by omega), if_pos (big17 (by rw [mk_len]; omega)), wsucc _ (by omega), Int.tmod_eq_emod_of_nonneg (Int.natCast_nonneg _), Int.tdiv_eq_ediv_of_nonneg (Int.natCast_nonneg _)]
    rw [show ((y / 65536 ^ j : Nat) : Int) % 65536 = ((dig v (4 * i + j) : Nat) : Int) by rw [hd]; rfl, show ((y / 65536 ^ j : Nat) : Int) / 65536 = ((y / 65536 ^ (j + 1) : Nat) : Int) by rw [Nat.pow_succ, ← Nat.div_div_eq_div_mul]; rfl]
    have h1 := dig_lt v (4 * i + j)
    have h2 : y / 65536 ^ (j + 1) < 18446744073709551616 := Nat.lt_of_le_of_lt (Nat.div_le_self _ _) hy
    generalize y / 65536 ^ (j + 1) = z at *
    rw [w64 (by omega) (by omega), wraps_u64 _ (by omega) (by omega), mk_snoc (4 * i + j) (fun i => (dig v i : Int))]; rfl
theorem of_outer (l : List Int) (v : Nat) (hl : l.length ≤ 100) (hv : ∀ i, i < l.length → ∃ y : Nat, l.getD i 0 = (y : Int) ∧ y < 18446744073709551616 ∧ v / 65536 ^ (4 * i) % 18446744073709551616 = y) (hs : v < 65536 ^ (4 * l.length)) (d : Nat) :
    ∀ i : Nat, i + d = l.length → Ev (fun k => vernierref01_Of.l0 k l (mk (4 * i) (fun i => (dig v i : Int))) i) (toN v) := by
  induction d with
  | zero =>
    intro i hi
    refine Ev.step (f := fun k => (vernierref01_cut.f k (mk (4 * i) (fun i => (dig v i : Int)))).bind fun t => some t) (fun k => ?_) (Ev.bind (cut_ev _ _ (by omega) (by rw [show i = l.length by omega]; exact hs)) (Ev.now _))
    simp only [vernierref01_Of.l0]; rw [if_neg (by omega)]
  | succ d ih =>
    intro i hi
    obtain ⟨y, h1, h2, h3⟩ := hv i (by omega)
    refine Ev.step (f := fun k => vernierref01_Of.l1 k l (mk (4 * i + 0) (fun i => (dig v i : Int))) i ((y / 65536 ^ 0 : Nat) : Int) ((0 : Nat) : Int)) (fun k => ?_) (of_inner l v hl i y h2 h3 (by omega) _ (ih (i + 1) (by omega)) 4 0 (by omega))
    simp only [vernierref01_Of.l0]; rw [if_pos (by omega), if_pos (by omega), rd_nat, h1]; simp
theorem of_ev (l : List Int) (v : Nat) (hl : l.length ≤ 100) (hv : ∀ i, i < l.length → ∃ y : Nat, l.getD i 0 = (y : Int) ∧ y < 18446744073709551616 ∧ v / 65536 ^ (4 * i) % 18446744073709551616 = y) (hs : v < 65536 ^ (4 * l.length)) :
    Ev (fun k => vernierref01_Of.f k l) (toN v) := of_outer l v hl hv hs l.length 0 (by omega)
def bl (a : Nat) : Nat := if h : a = 0 then 0 else bl (a / 2) + 1
termination_by a
decreasing_by omega
theorem bl_zero : bl 0 = 0 := by rw [bl]; rfl
theorem bl_pos {a : Nat} (h : a ≠ 0) : bl a = bl (a / 2) + 1 := by rw [bl]; simp [h]
theorem lt_bl : ∀ a : Nat, a < 2 ^ bl a := by
  intro a
  induction a using Nat.strongRecOn with
  | _ a ih =>
    by_cases h : a = 0
    · subst h; rw [bl_zero]; decide
    · rw [bl_pos h, Nat.pow_succ]
      have := ih (a / 2) (by omega)
      omega
theorem le_bl {a : Nat} (h : a ≠ 0) : 2 ^ (bl a - 1) ≤ a := by
  induction a using Nat.strongRecOn with
  | _ a ih =>
    rw [bl_pos h, Nat.add_sub_cancel]
    by_cases g : a / 2 = 0
    · rw [g, bl_zero]; simp; omega
    · have h1 := ih (a / 2) (by omega) g
      have h2 : bl (a / 2) = bl (a / 2) - 1 + 1 := by rw [bl_pos g]; omega
      rw [h2, Nat.pow_succ]; omega
theorem bl_le {a n : Nat} (h : a < 2 ^ n) : bl a ≤ n := by
  by_cases g : a = 0
  · subst g; rw [bl_zero]; omega
  · have := Nat.lt_of_le_of_lt (le_bl g) h
    have := (Nat.pow_lt_pow_iff_right (a := 2) (by omega)).1 this
    omega
theorem bl_gt {a n : Nat} (h : 2 ^ n ≤ a) : n < bl a := (Nat.pow_lt_pow_iff_right (a := 2) (by omega)).1 (Nat.lt_of_le_of_lt h (lt_bl a))
theorem bl_eq {a n : Nat} (h : 2 ^ n ≤ a) (h' : a < 2 ^ (n + 1)) : bl a = n + 1 := by have := bl_gt h; have := bl_le h'; omega
theorem B16 (n : Nat) : 65536 ^ n = 2 ^ (16 * n) := by rw [Nat.pow_mul]
theorem bl_dig {a : Nat} (h : a ≠ 0) : 16 * (nd a - 1) + bl (dig a (nd a - 1)) = bl a := by
  have h1 := lt_nd a
  have h2 := le_nd h
  have hn : nd a = nd a - 1 + 1 := by rw [nd_pos h]; omega
  generalize nd a - 1 = n at *
  rw [hn] at h1
  have hd : dig a n = a / 65536 ^ n := by
    unfold dig; rw [Nat.mod_eq_of_lt]; rw [Nat.pow_succ] at h1; exact Nat.div_lt_of_lt_mul (by rw [Nat.mul_comm] at h1; rw [Nat.mul_comm]; exact h1)
  have hp : dig a n ≠ 0 := by rw [hd]; have := Nat.div_pos h2 (B_pos n); omega
  have h3 := le_bl hp
  have h4 := lt_bl (dig a n)
  have h5 : bl (dig a n) = bl (dig a n) - 1 + 1 := by rw [bl_pos hp]; omega
  generalize bl (dig a n) - 1 = b at *
  rw [h5] at h4
  rw [hd] at h3 h4
  have h6 : 2 ^ (16 * n + b) ≤ a := by
    rw [Nat.pow_add, ← B16]
    exact Nat.le_trans (Nat.mul_le_mul_left _ h3) (Nat.mul_div_le _ _)
  have h7 : a < 2 ^ (16 * n + b + 1) := by
    rw [Nat.add_assoc, Nat.pow_add, ← B16]
    exact Nat.lt_mul_of_div_lt h4 (B_pos n) |> (by rw [Nat.mul_comm]; exact ·)
  rw [bl_eq h6 h7, h5]; omega
theorem bits_l (c : Nat) : ∀ d n : Nat, bl d ≤ c → n + c ≤ 10000000 → d < 65536 → Ev (fun k => vernierref01_Bits.l0 k n d) ((n + bl d : Nat) : Int) := by
  induction c with
  | zero =>
    intro d n hb hn hd
    have h : d = 0 := by have := lt_bl d; rw [show bl d = 0 by omega] at this; simpa using this
    subst h
    refine Ev.no (fun k => ?_)
    simp only [vernierref01_Bits.l0]; rw [if_neg (by omega), bl_zero]; rfl
  | succ c ih =>
    intro d n hb hn hd
    by_cases h : d = 0
    · subst h
      refine Ev.no (fun k => ?_)
      simp only [vernierref01_Bits.l0]; rw [if_neg (by omega), bl_zero]; rfl
    · rw [bl_pos h] at hb ⊢
      refine Ev.step (f := fun k => vernierref01_Bits.l0 k ((n + 1 : Nat) : Int) ((d / 2 : Nat) : Int)) (fun k => ?_) ?_
      · simp only [vernierref01_Bits.l0]; rw [if_pos (by omega), wsucc _ (by omega), Int.tdiv_eq_ediv_of_nonneg (by omega), w64 (by omega) (by omega)]; rfl
      · rw [show n + (bl (d / 2) + 1) = n + 1 + bl (d / 2) by omega]; exact ih (d / 2) (n + 1) (by omega) (by omega) (by omega)
theorem bits_ev (a : Nat) (ha : nd a ≤ 100000) : Ev (fun k => vernierref01_Bits.f k (toN a)) (bl a : Int) := by
  by_cases h : a = 0
  · refine Ev.congr (f := fun _ => some 0) (fun k => ?_) ?_
    · unfold vernierref01_Bits.f; rw [toN_len]; subst h; rw [nd_zero]; rfl
    · subst h; rw [bl_zero]; exact Ev.now _
  · have hn : 1 ≤ nd a := by rw [nd_pos h]; omega
    have hd := dig_lt a (nd a - 1)
    rw [← bl_dig h]
    refine Ev.congr (fun k => ?_) (bits_l 16 (dig a (nd a - 1)) (16 * (nd a - 1)) (bl_le (by simpa using hd)) (by omega) hd)
    unfold vernierref01_Bits.f
    have e : ((nd a : Nat) : Int) - 1 = ((nd a - 1 : Nat) : Int) := by omega
    rw [toN_len, if_neg (by omega), w64 (by omega) (by omega), if_pos (by omega), if_pos (by omega), e, rd_toN, w64 (by omega) (by omega)]
    rw [show (16 : Int) * ((nd a - 1 : Nat) : Int) = ((16 * (nd a - 1) : Nat) : Int) by omega]
def cmpN (a b : Nat) : Int := if a < b then -1 else if b < a then 1 else 0
theorem cmp_l (a b : Nat) (ha : nd a ≤ 100000) (hab : nd a = nd b) : ∀ i : Nat, i ≤ nd a → a / 65536 ^ i = b / 65536 ^ i → Ev (fun k => vernierref01_Cmp.l0 k (toN a) (toN b) ((i : Int) - 1)) (cmpN a b) := by
  intro i
  induction i with
  | zero =>
    intro _ h
    refine Ev.no (fun k => ?_)
    simp only [vernierref01_Cmp.l0]; rw [if_neg (by omega)]
    have : a = b := by simpa using h
    subst this; simp [cmpN]
  | succ i ih =>
    intro hi h
    have e : (((i + 1 : Nat) : Int) - 1) = (i : Int) := by omega
    have h1 := div_step a i
    have h2 := div_step b i
    have hs : ∀ k, vernierref01_Cmp.l0 (k + 1) (toN a) (toN b) (((i + 1 : Nat) : Int) - 1) = if (dig a i : Int) < (dig b i : Int) then some (-1) else if (dig a i : Int) > (dig b i : Int) then some 1 else vernierref01_Cmp.l0 k (toN a) (toN b) ((i : Int) - 1) := fun k => by
      simp only [vernierref01_Cmp.l0]
      rw [e, if_pos (by omega), if_pos (by omega), if_pos (by rw [toN_len]; omega), if_pos (by rw [toN_len]; omega), rd_toN, rd_toN, w64 (by omega) (by omega)]
    have lt_of : ∀ x y : Nat, x / 65536 ^ i < y / 65536 ^ i → x < y := fun x y hxy => by
      by_cases g : x < y
      · exact g
      · exact absurd (Nat.div_le_div_right (c := 65536 ^ i) (show y ≤ x by omega)) (by omega)
    by_cases c1 : dig a i < dig b i
    · refine Ev.no (fun k => ?_)
      rw [hs, if_pos (by omega)]
      have := lt_of a b (by omega)
      unfold cmpN; rw [if_pos this]
    · by_cases c2 : dig b i < dig a i
      · refine Ev.no (fun k => ?_)
        rw [hs, if_neg (by omega), if_pos (by omega)]
        have := lt_of b a (by omega)
        unfold cmpN; rw [if_neg (by omega), if_pos this]
      · refine Ev.step (fun k => ?_) (ih (by omega) (by omega))
        rw [hs, if_neg (by omega), if_neg (by omega)]
theorem cmp_ev (a b : Nat) (ha : nd a ≤ 100000) (_hb : nd b ≤ 100000) : Ev (fun k => vernierref01_Cmp.f k (toN a) (toN b)) (cmpN a b) := by
  by_cases h : nd a = nd b
  · refine Ev.congr (fun k => ?_) (cmp_l a b ha h (nd a) (Nat.le_refl _) (by rw [Nat.div_eq_of_lt (lt_nd a), Nat.div_eq_of_lt (by rw [h]; exact lt_nd b)]))
    unfold vernierref01_Cmp.f
    rw [toN_len, toN_len, if_pos (by omega), w64 (by omega) (by omega)]
  · refine Ev.congr (f := fun _ => some (cmpN a b)) (fun k => ?_) (Ev.now _)
    unfold vernierref01_Cmp.f
    rw [toN_len, toN_len, if_neg (by omega)]
    by_cases g : nd a < nd b
    · have : a < b := by
        by_cases c : a < b
        · exact c
        · have := nd_mono (show b ≤ a by omega); omega
      rw [if_pos (by omega)]; unfold cmpN; rw [if_pos this]
    · have : b < a := by
        by_cases c : b < a
        · exact c
        · have := nd_mono (show a ≤ b by omega); omega
      rw [if_neg (by omega)]; unfold cmpN; rw [if_neg (by omega), if_pos this]
def bor (a b i : Nat) : Nat := if a % 65536 ^ i < b % 65536 ^ i then 1 else 0
theorem bor_zero (a b : Nat) : bor a b 0 = 0 := by simp [bor, Nat.mod_one]
theorem bor_le (a b i : Nat) : bor a b i ≤ 1 := by unfold bor; split <;> omega
theorem bor_step (a b i : Nat) : bor a b (i + 1) = if dig a i < dig b i + bor a b i then 1 else 0 := by
  unfold bor
  rw [mod_step, mod_step]
  have h1 := Nat.mod_lt a (B_pos i)
  have h2 := Nat.mod_lt b (B_pos i)
  have hm : ∀ x y : Nat, x < y → x * 65536 ^ i + 65536 ^ i ≤ y * 65536 ^ i := fun x y h => by
    have := Nat.mul_le_mul_right (65536 ^ i) (show x + 1 ≤ y from h); rw [Nat.add_mul, Nat.one_mul] at this; exact this
  generalize 65536 ^ i = p at *
  rcases Nat.lt_trichotomy (dig a i) (dig b i) with h | h | h
  · have := hm _ _ h
    rw [if_pos (by omega), if_pos (by omega)]
  · rw [h]
    by_cases g : a % p < b % p
    · rw [if_pos (by omega), if_pos g, if_pos (by omega)]
    · rw [if_neg (by omega), if_neg g, if_neg (by omega)]
  · have := hm _ _ h
    rw [if_neg (by omega), if_neg (by split <;> omega)]
theorem bor_dig (a b i : Nat) (h : b ≤ a) : (dig (a - b) i : Int) = ((dig a i : Int) - dig b i - bor a b i) % 65536 := by
  have hq : (a - b) / 65536 ^ i + b / 65536 ^ i + bor a b i = a / 65536 ^ i := by
    have h1 := Nat.div_add_mod a (65536 ^ i)
    have h2 := Nat.div_add_mod b (65536 ^ i)
    have h3 := Nat.div_add_mod (a - b) (65536 ^ i)
    have m1 := Nat.mod_lt a (B_pos i)
    have m2 := Nat.mod_lt b (B_pos i)
    have m3 := Nat.mod_lt (a - b) (B_pos i)
    unfold bor
    have key : ∀ x y z e : Nat, e ≤ 1 → 65536 ^ i * x + a % 65536 ^ i + e * 65536 ^ i = 65536 ^ i * y + b % 65536 ^ i + (65536 ^ i * z + (a - b) % 65536 ^ i) + e * 65536 ^ i → (a % 65536 ^ i < b % 65536 ^ i ↔ e = 1) → z + y + e = x := fun x y z e _ he hb => by
      generalize 65536 ^ i = p at *
      have hx : ∀ u v : Nat, u < v → p * u + p ≤ p * v := fun u v h => by
        have := Nat.mul_le_mul_left p (show u + 1 ≤ v from h); rw [Nat.mul_add, Nat.mul_one] at this; exact this
      have ex : p * (z + y) = p * z + p * y := Nat.mul_add _ _ _
      rcases Nat.lt_trichotomy (z + y) x with g | g | g
      · have := hx _ _ g
        by_cases g2 : z + y + 1 < x
        · have := hx _ _ g2
          rw [Nat.mul_add, Nat.mul_one] at this; omega
        · have : e = 1 := by
            by_cases g3 : e = 1
            · exact g3
            · have : ¬ a % p < b % p := fun k => g3 (hb.1 k)
              have hx1 : x = z + y + 1 := by omega
              rw [hx1, Nat.mul_add, Nat.mul_one] at he; omega
          omega
      · have : e = 0 := by
          by_cases g3 : e = 1
          · have := hb.2 g3
            rw [← g] at he; omega
          · omega
        omega
      · have := hx _ _ g; omega
    refine key _ _ _ _ (by split <;> omega) ?_ (by split <;> simp_all)
    omega
  have ha := div_step a i
  unfold dig
  have hb0 := bor_le a b i
  omega
theorem wtm {x : Int} (h0 : -65536 ≤ x) (h1 : x ≤ 65535) : Int.tmod (wrap64 (Int.tmod x 65536 + 65536)) 65536 = x % 65536 := by
  by_cases h : 0 ≤ x
  · rw [Int.tmod_eq_emod_of_nonneg h, w64 (by omega) (by omega), Int.tmod_eq_emod_of_nonneg (by omega)]; omega
  · have e : Int.tmod x 65536 = -((-x) % 65536) := by
      rw [show x = -(-x) by omega, Int.neg_tmod, Int.tmod_eq_emod_of_nonneg (by omega)]; simp
    rw [e, w64 (by omega) (by omega), Int.tmod_eq_emod_of_nonneg (by omega)]; omega
theorem wtd {x : Int} : Int.tdiv (x - x % 65536) 65536 = x / 65536 := by
  have := Int.mul_ediv_add_emod x 65536
  rw [show x - x % 65536 = 65536 * (x / 65536) by omega, Int.mul_tdiv_cancel_left _ (by omega)]
theorem sub_l (a b : Nat) (ha : nd a ≤ 50000) (hba : b ≤ a) (d : Nat) : ∀ i : Nat, i + d = nd a → Ev (fun k => vernierref01_SubA.l0 k (toN a) (toN b) (mk i (fun i => (dig (a - b) i : Int))) (-(bor a b i : Int)) i) (toN (a - b)) := by
  induction d with
  | zero =>
    intro i hi
    refine Ev.step (f := fun k => (vernierref01_cut.f k (mk i (fun i => (dig (a - b) i : Int)))).bind fun t => some t) (fun k => ?_) (Ev.bind (cut_ev i (a - b) (by omega) ?_) (Ev.now _))
    · simp only [vernierref01_SubA.l0]; rw [toN_len, if_neg (by omega)]
    · have := lt_nd a; rw [show i = nd a by omega]; omega
  | succ d ih =>
    intro i hi
    have c1 := bor_le a b i
    have d1 := dig_lt a i
    have d2 := dig_lt b i
    refine Ev.step (fun k => ?_) (ih (i + 1) (by omega))
    have hx : (dig a i : Int) - dig b i - bor a b i = wrap64 ((wrap64 (-(bor a b i : Int) + dig a i)) - dig b i) := by
      rw [w64 (x := -(bor a b i : Int) + dig a i) (by omega) (by omega), w64 (by omega) (by omega)]; omega
    have hd := bor_dig a b i hba
    have hc : ((dig a i : Int) - dig b i - bor a b i) / 65536 = -(bor a b (i + 1) : Int) := by
      rw [bor_step]; split <;> omega
    have e1 : Int.tmod (wrap64 (Int.tmod ((dig a i : Int) - dig b i - bor a b i) 65536 + 65536)) 65536 = (dig (a - b) i : Int) := by rw [wtm (by omega) (by omega), hd]
    have e2 : wrap64 (Int.tdiv (wrap64 (((dig a i : Int) - dig b i - bor a b i) - (dig (a - b) i : Int))) 65536) = -(bor a b (i + 1) : Int) := by
      have hl := bor_le a b (i + 1)
      rw [hd, w64 (x := ((dig a i : Int) - dig b i - bor a b i) - ((dig a i : Int) - dig b i - bor a b i) % 65536) (by omega) (by omega), wtd, hc, w64 (by omega) (by omega)]
    simp only [vernierref01_SubA.l0]
    rw [toN_len, toN_len, mk_len, rd_toN, rd_toN, if_pos (by omega), if_pos (by omega), wsucc _ (by omega)]
    by_cases g : i < nd b
    · rw [if_pos (by omega), if_pos (big17 (by omega)), ← hx, e1, e2, mk_snoc i (fun i => (dig (a - b) i : Int))]
    · have hz : dig b i = 0 := dig_big (Nat.lt_of_lt_of_le (lt_nd b) (Nat.pow_le_pow_right (by omega) (by omega)))
      have hx' : wrap64 (-(bor a b i : Int) + dig a i) = (dig a i : Int) - dig b i - bor a b i := by rw [w64 (by omega) (by omega)]; omega
      rw [if_neg (by omega), if_pos (big17 (by omega)), hx', e1, e2, mk_snoc i (fun i => (dig (a - b) i : Int))]
theorem sub_ev (a b : Nat) (ha : nd a ≤ 50000) (hba : b ≤ a) : Ev (fun k => vernierref01_Sub.f k (toN a) (toN b)) (toN (a - b)) := by
  have hc : cmpN a b = 0 ∨ cmpN a b = 1 := by unfold cmpN; rw [if_neg (by omega)]; split <;> simp
  have hb : nd b ≤ 50000 := Nat.le_trans (nd_mono hba) ha
  have c := cmp_ev a b (by omega) (by omega)
  refine Ev.bind c ?_
  simp only [if_neg (show ¬ cmpN a b < 0 by omega)]
  refine Ev.bind c ?_
  simp only [if_neg (show ¬ cmpN a b < 0 by omega)]
  have := sub_l a b ha hba (nd a) 0 (by omega)
  rw [bor_zero] at this
  exact this
theorem castB (n : Nat) : ((65536 ^ n : Nat) : Int) = (65536 : Int) ^ n := Int.natCast_pow 65536 n
def valL : List Int → Int
  | [] => 0
  | x :: l => x + 65536 * valL l
def okL (l : List Int) : Prop := ∀ x ∈ l, 0 ≤ x ∧ x < 65536
theorem valL_nn : ∀ l, okL l → 0 ≤ valL l ∧ valL l < 65536 ^ l.length
  | [], _ => by simp [valL]
  | x :: l, h => by
    have h1 := valL_nn l (fun y hy => h y (List.mem_cons_of_mem _ hy))
    have h2 := h x (List.mem_cons_self)
    simp only [valL, List.length_cons, Int.pow_succ]; omega
theorem valL_set : ∀ (l : List Int) (p : Nat) (v : Int), p < l.length → valL (l.set p v) = valL l + (v - l.getD p 0) * 65536 ^ p
  | [], p, v, h => by simp at h
  | x :: l, 0, v, _ => by simp [valL]; omega
  | x :: l, p + 1, v, h => by
    have := valL_set l p v (by simpa using h)
    simp only [List.set_cons_succ, valL, this, List.getD_cons_succ]
    rw [Int.pow_succ, Int.mul_add, ← Int.add_assoc]; congr 1
    rw [Int.mul_comm (65536 ^ p) 65536, Int.mul_left_comm]
theorem okL_set {l : List Int} (h : okL l) (p : Nat) {v : Int} (h0 : 0 ≤ v) (h1 : v < 65536) : okL (l.set p v) := fun x hx => by
  rcases List.mem_or_eq_of_mem_set hx with hx | rfl
  · exact h x hx
  · exact ⟨h0, h1⟩
theorem mk_cons (n : Nat) (f : Nat → Int) : mk (n + 1) f = f 0 :: mk n (fun i => f (i + 1)) := by
  unfold mk; rw [List.range_succ_eq_map, List.map_cons, List.map_map]; rfl
theorem mk_valL : ∀ (l : List Int), okL l → l = mk l.length (fun i => (dig (valL l).toNat i : Int))
  | [], _ => rfl
  | x :: l, h => by
    have hl : okL l := fun y hy => h y (List.mem_cons_of_mem _ hy)
    have h1 := valL_nn l hl
    have h2 := h x (List.mem_cons_self)
    have ih := mk_valL l hl
    obtain ⟨v, hv⟩ := Int.eq_ofNat_of_zero_le h1.1
    obtain ⟨y, hy⟩ := Int.eq_ofNat_of_zero_le h2.1
    have e : (valL (x :: l)).toNat = y + 65536 * v := by simp only [valL]; rw [hv, hy]; omega
    rw [hv, Int.toNat_natCast] at ih
    rw [List.length_cons, mk_cons, e]
    have e0 : (dig (y + 65536 * v) 0 : Int) = x := by unfold dig; rw [hy]; simp; omega
    have es : ∀ i, dig (y + 65536 * v) (i + 1) = dig v i := fun i => by
      unfold dig; rw [Nat.pow_succ', ← Nat.div_div_eq_div_mul, show (y + 65536 * v) / 65536 = v by omega]
    rw [e0]; congr 1
    simp only [es]; exact ih
theorem valL_zero (n : Nat) : valL (List.replicate n 0) = 0 ∧ okL (List.replicate n 0) := by
  constructor
  · induction n with
    | zero => rfl
    | succ n ih => rw [List.replicate_succ]; simp only [valL, ih]; rfl
  · intro x hx; rw [List.eq_of_mem_replicate hx]; omega
theorem getD_ok {l : List Int} (h : okL l) (p : Nat) : 0 ≤ l.getD p 0 ∧ l.getD p 0 < 65536 := by
  by_cases g : p < l.length
  · rw [List.getD_eq_getElem?_getD, List.getElem?_eq_getElem g]; exact h _ (List.getElem_mem g)
  · rw [List.getD_eq_getElem?_getD, List.getElem?_eq_none (by omega)]; simp
theorem pB (n : Nat) : (0 : Int) < 65536 ^ n := Int.pow_pos (by omega)
theorem cdiv (n : Nat) : (n : Int) / 65536 = ((n / 65536 : Nat) : Int) := by omega
/-- One place of the inner loop, in numbers. -/
theorem mul_place {V c o m Z : Int} {p : Nat} (h : V + c * 65536 ^ p = Z) : V + ((c + o + m) % 65536 - o) * 65536 ^ p + (c + o + m) / 65536 * 65536 ^ (p + 1) = Z + m * 65536 ^ p := by
  have h1 := Int.mul_ediv_add_emod (c + o + m) 65536
  rw [Int.pow_succ, ← h]
  generalize (65536 : Int) ^ p = q
  generalize (c + o + m) / 65536 = u at *
  generalize (c + o + m) % 65536 = w at *
  have h2 : w = c + o + m - 65536 * u := by omega
  rw [h2, Int.sub_mul, Int.sub_mul, Int.add_mul, Int.add_mul]
  have h3 : u * (q * 65536) = 65536 * u * q := by rw [Int.mul_comm q 65536, ← Int.mul_assoc, Int.mul_comm u 65536]
  rw [h3]; omega
theorem mul_inner (a b : Nat) (hab : nd a + nd b ≤ 40000) (i : Nat) (hi : i < nd a) (W : List Int) (R : List Int)
    (next : ∀ o : List Int, o.length = nd a + nd b + 1 → okL o → valL o = valL W + ((dig a i * b : Nat) : Int) * 65536 ^ i → Ev (fun k => vernierref01_Mul.l0 k (toN a) (toN b) o ((i + 1 : Nat) : Int)) R)
    (hW : valL W + ((dig a i * b : Nat) : Int) * 65536 ^ i < 65536 ^ (i + 1 + nd b)) (d : Nat) :
    ∀ (q : Nat) (o : List Int) (c : Nat), q + d = nd b + 2 → c < 65536 → o.length = nd a + nd b + 1 → okL o → valL o + (c : Int) * 65536 ^ (i + q) = valL W + ((dig a i * (b % 65536 ^ q) : Nat) : Int) * 65536 ^ i →
      Ev (fun k => vernierref01_Mul.l1 k (toN a) (toN b) o i c q) R := by
  have stop : ∀ (q : Nat) (o : List Int), nd b ≤ q → q ≤ nd b + 2 → o.length = nd a + nd b + 1 → okL o → valL o = valL W + ((dig a i * (b % 65536 ^ q) : Nat) : Int) * 65536 ^ i → Ev (fun k => vernierref01_Mul.l1 k (toN a) (toN b) o i ((0 : Nat) : Int) q) R := fun q o hq hq2 ho hok hv => by
    refine Ev.step (f := fun k => vernierref01_Mul.l0 k (toN a) (toN b) o ((i + 1 : Nat) : Int)) (fun k => ?_) (next o ho hok (by rw [hv, mod_nd b q hq]))
    simp only [vernierref01_Mul.l1]; rw [toN_len, if_neg (by omega), if_neg (by omega), wsucc i (by omega)]
  have zero_of : ∀ (q : Nat) (o : List Int) (c : Nat), nd b + 1 ≤ q → okL o → valL o + (c : Int) * 65536 ^ (i + q) = valL W + ((dig a i * (b % 65536 ^ q) : Nat) : Int) * 65536 ^ i → c = 0 := fun q o c hq hok hv => by
    rw [mod_nd b q (by omega)] at hv
    have h1 := (valL_nn o hok).1
    have h2 : (65536 : Int) ^ (i + 1 + nd b) ≤ 65536 ^ (i + q) := by
      have := Int.ofNat_le.2 (Nat.pow_le_pow_right (n := 65536) (by omega) (show i + 1 + nd b ≤ i + q by omega))
      rwa [castB, castB] at this
    have h3 : (c : Int) * 65536 ^ (i + q) < 65536 ^ (i + q) := by omega
    by_cases g : c = 0
    · exact g
    · have h4 : 1 * (65536 : Int) ^ (i + q) ≤ (c : Int) * 65536 ^ (i + q) := Int.mul_le_mul_of_nonneg_right (by omega) (by have := pB (i + q); omega)
      omega
  induction d with
  | zero =>
    intro q o c hq hc ho hok hv
    have hz := zero_of q o c (by omega) hok hv
    subst hz
    exact stop q o (by omega) (by omega) ho hok (by rw [show ((0 : Nat) : Int) = 0 from rfl, Int.zero_mul, Int.add_zero] at hv; exact hv)
  | succ d ih =>
    intro q o c hq hc ho hok hv
    have d1 := dig_lt a i
    have d2 := dig_lt b q
    have g0 := getD_ok hok (i + q)
    by_cases hs : q < nd b ∨ 0 < c
    · have hq2 : q ≤ nd b := by
        by_cases g : q ≤ nd b
        · exact g
        · have := zero_of q o c (by omega) hok hv; omega
      obtain ⟨x, hx⟩ := Int.eq_ofNat_of_zero_le g0.1
      have hm : dig a i * dig b q ≤ 65535 * 65535 := Nat.mul_le_mul (by omega) (by omega)
      have hnext : ∀ m : Nat, m = dig a i * dig b q → Ev (fun k => vernierref01_Mul.l1 k (toN a) (toN b) (o.set (i + q) (((c + x + m : Nat) : Int) % 65536)) i ((((c + x + m) / 65536 : Nat)) : Int) ((q + 1 : Nat) : Int)) R := fun m hme => by
        refine ih (q + 1) _ _ (by omega) ?_ (by rw [List.length_set]; exact ho) (okL_set hok _ (by omega) (by omega)) ?_
        · rw [hme]; omega
        · rw [valL_set _ _ _ (by omega), hx]
          have := mul_place (o := (x : Int)) (m := (m : Int)) hv
          rw [mod_step, Nat.mul_add, ← Nat.mul_assoc, ← hme]
          have e : (((dig a i * (b % 65536 ^ q) + m * 65536 ^ q : Nat)) : Int) * 65536 ^ i = ((dig a i * (b % 65536 ^ q) : Nat) : Int) * 65536 ^ i + (m : Int) * 65536 ^ (i + q) := by
            rw [Int.natCast_add, Int.add_mul, Int.natCast_mul m, castB, Int.mul_assoc (m : Int), ← Int.pow_add, Nat.add_comm q i]
          rw [e, ← Int.add_assoc, ← this, show i + (q + 1) = i + q + 1 by omega]
          rw [show ((c + x + m : Nat) : Int) = (c : Int) + (x : Int) + (m : Int) by omega, ← cdiv, show ((c + x + m : Nat) : Int) = (c : Int) + (x : Int) + (m : Int) by omega]
      by_cases g : q < nd b
      · refine Ev.step (fun k => ?_) (hnext (dig a i * dig b q) rfl)
        have hp : dig a i * dig b q < 4294967296 := by omega
        simp only [vernierref01_Mul.l1]
        rw [toN_len, toN_len, rd_toN, rd_toN, wadd i q (by omega), rd_nat, hx, ho, if_pos (by omega), if_pos (by omega), if_pos (by omega), if_pos (by omega), if_pos (by omega), if_pos (by omega), wsucc q (by omega)]
        rw [wmul (dig a i) (dig b q) (by omega), wadd c x (by omega)]
        generalize dig a i * dig b q = m at *
        rw [wadd (c + x) m (by omega), Int.tmod_eq_emod_of_nonneg (by omega), Int.tdiv_eq_ediv_of_nonneg (by omega), cdiv, wN _ (by omega), Int.toNat_natCast]
      · have hz : dig b q = 0 := dig_big (Nat.lt_of_lt_of_le (lt_nd b) (Nat.pow_le_pow_right (by omega) (by omega)))
        refine Ev.step (fun k => ?_) (hnext 0 (by rw [hz, Nat.mul_zero]))
        simp only [vernierref01_Mul.l1]
        rw [toN_len, wadd i q (by omega), rd_nat, hx, ho, if_neg (by omega), if_pos (by omega), if_pos (by omega), if_pos (by omega), wsucc q (by omega)]
        rw [wadd c x (by omega), Int.tmod_eq_emod_of_nonneg (by omega), Int.tdiv_eq_ediv_of_nonneg (by omega), cdiv, wN _ (by omega), Int.toNat_natCast]; simp only [Nat.add_zero]
    · have hz : c = 0 := by omega
      subst hz
      exact stop q o (by omega) (by omega) ho hok (by rw [show ((0 : Nat) : Int) = 0 from rfl, Int.zero_mul, Int.add_zero] at hv; exact hv)
theorem mul_outer (a b : Nat) (hab : nd a + nd b ≤ 40000) (d : Nat) : ∀ (i : Nat) (o : List Int), i + d = nd a → o.length = nd a + nd b + 1 → okL o → valL o = (((a % 65536 ^ i) * b : Nat) : Int) →
    Ev (fun k => vernierref01_Mul.l0 k (toN a) (toN b) o i) (toN (a * b)) := by
  induction d with
  | zero =>
    intro i o hi ho hok hv
    rw [mod_nd a i (by omega)] at hv
    have hm := mk_valL o hok
    rw [hv, Int.toNat_natCast, ho] at hm
    have hlt : a * b < 65536 ^ (nd a + nd b + 1) := by
      have h1 := lt_nd a
      have h2 := lt_nd b
      have h3 : a * b < 65536 ^ nd a * 65536 ^ nd b := Nat.mul_lt_mul'' h1 h2
      rw [← Nat.pow_add] at h3
      exact Nat.lt_of_lt_of_le h3 (Nat.pow_le_pow_right (by omega) (by omega))
    refine Ev.step (f := fun k => (vernierref01_cut.f k o).bind fun t => some t) (fun k => ?_) (Ev.bind (by rw [hm]; exact cut_ev _ _ (by omega) hlt) (Ev.now _))
    simp only [vernierref01_Mul.l0]; rw [toN_len, if_neg (by omega)]
  | succ d ih =>
    intro i o hi ho hok hv
    have hs : ((a % 65536 ^ (i + 1) * b : Nat) : Int) = valL o + ((dig a i * b : Nat) : Int) * 65536 ^ i := by
      rw [hv, mod_step, Nat.add_mul, Int.natCast_add, Nat.mul_right_comm, Int.natCast_mul (dig a i * b), castB]
    refine Ev.step (f := fun k => vernierref01_Mul.l1 k (toN a) (toN b) o i ((0 : Nat) : Int) ((0 : Nat) : Int)) (fun k => ?_) (mul_inner a b hab i (by omega) o _ (fun o2 h1 h2 h3 => ih (i + 1) o2 (by omega) h1 h2 (by rw [h3, hs])) ?_ (nd b + 2) 0 o 0 (by omega) (by omega) ho hok (by rw [Nat.pow_zero, Nat.mod_one, Nat.mul_zero, show ((0 : Nat) : Int) = 0 from rfl, Int.zero_mul, Int.zero_mul]))
    · simp only [vernierref01_Mul.l0]; rw [toN_len, if_pos (by omega)]; rfl
    · rw [← hs]
      have h1 := Nat.mod_lt a (B_pos (i + 1))
      have h2 := lt_nd b
      have h3 : a % 65536 ^ (i + 1) * b < 65536 ^ (i + 1) * 65536 ^ nd b := Nat.mul_lt_mul'' h1 h2
      rw [← Nat.pow_add] at h3
      have h4 := Int.ofNat_lt.2 h3
      rwa [castB] at h4
theorem mul_ev (a b : Nat) (hab : nd a + nd b ≤ 40000) : Ev (fun k => vernierref01_Mul.f k (toN a) (toN b)) (toN (a * b)) := by
  obtain ⟨z1, z2⟩ := valL_zero (nd a + nd b + 1)
  refine Ev.congr (fun k => ?_) (mul_outer a b hab (nd a) 0 (List.replicate (nd a + nd b + 1) 0) (by omega) (by simp) z2 (by rw [z1, Nat.pow_zero, Nat.mod_one, Nat.zero_mul]; rfl))
  unfold vernierref01_Mul.f
  rw [toN_len, toN_len, wadd _ _ (by omega), wsucc _ (by omega), if_pos (by omega), Int.toNat_natCast, if_pos (big35 (by omega))]; rfl
theorem toN_digit {p : Nat} (h0 : 0 < p) (h1 : p < 65536) : toN p = [(p : Int)] := by
  have hn : nd p = 1 := by rw [nd_pos (by omega), show p / 65536 = 0 by omega, nd_zero]
  unfold toN
  rw [hn, mk_cons]
  have : dig p 0 = p := by unfold dig; rw [Nat.pow_zero, Nat.div_one]; omega
  rw [this]; rfl
theorem dig_shift (m z i : Nat) : dig (m * 65536 ^ z) i = if i < z then 0 else dig m (i - z) := by
  by_cases g : i < z
  · rw [if_pos g]; unfold dig
    have e : m * 65536 ^ z = 65536 ^ i * (m * 65536 ^ (z - i - 1) * 65536) := by
      rw [show z = i + ((z - i - 1) + 1) by omega, Nat.pow_add, Nat.pow_succ, show i + (z - i - 1 + 1) - i - 1 = z - i - 1 by omega]
      rw [Nat.mul_left_comm, Nat.mul_assoc]
    rw [e, Nat.mul_div_cancel_left _ (B_pos i), Nat.mul_mod_left]
  · rw [if_neg g]; unfold dig
    have e : 65536 ^ i = 65536 ^ z * 65536 ^ (i - z) := by rw [← Nat.pow_add]; congr 1; omega
    rw [e, Nat.mul_comm m, Nat.mul_div_mul_left _ _ (B_pos z)]
theorem zeros_toN (m z : Nat) : List.replicate z (0 : Int) ++ toN m = mk (z + nd m) (fun i => (dig (m * 65536 ^ z) i : Int)) := by
  refine mk_eq (by rw [List.length_append, List.length_replicate, toN_len]) (fun k hk => ?_)
  rw [dig_shift, List.getD_eq_getElem?_getD]
  by_cases g : k < z
  · rw [List.getElem?_append_left (by rw [List.length_replicate]; exact g), if_pos g, List.getElem?_replicate, if_pos g]; rfl
  · rw [List.getElem?_append_right (by rw [List.length_replicate]; omega), if_neg g, List.length_replicate, ← List.getD_eq_getElem?_getD, toN_get]
theorem nd_shl (a n : Nat) : nd (a * 2 ^ n) ≤ nd a + n / 16 + 1 := by
  refine nd_lt ?_
  have h1 := lt_nd a
  have h2 : 2 ^ n ≤ 65536 ^ (n / 16 + 1) := by
    rw [show (65536 : Nat) = 2 ^ 16 by decide, ← Nat.pow_mul]
    exact Nat.pow_le_pow_right (by omega) (by omega)
  rw [Nat.add_assoc, Nat.pow_add]
  exact Nat.lt_of_lt_of_le ((Nat.mul_lt_mul_right (Nat.pow_pos (by omega))).2 h1) (Nat.mul_le_mul_left _ h2)
theorem shl_l (a n : Nat) (ha : nd a ≤ 30000) (hn : n ≤ 500000) : ∀ d i : Nat, i + d = n % 16 →
    Ev (fun k => vernierref01_Shl.l0 k (toN a) n (List.replicate (n / 16) 0) ((2 ^ i : Nat) : Int) i) (toN (a * 2 ^ n)) := by
  intro d
  induction d with
  | zero =>
    intro i hi
    have hp : 0 < 2 ^ i := Nat.pow_pos (by omega)
    have hp1 : 2 ^ i ≤ 32768 := Nat.pow_le_pow_right (n := 2) (by omega) (show i ≤ 15 by omega)
    have hn1 : nd (2 ^ i) = 1 := by rw [nd_pos (by omega), show 2 ^ i / 65536 = 0 by omega, nd_zero]
    have hM := mul_ev a (2 ^ i) (by omega)
    have hnd : nd (a * 2 ^ i) ≤ nd a + 1 := by have := nd_shl a i; omega
    have he : a * 2 ^ i * 65536 ^ (n / 16) = a * 2 ^ n := by
      rw [show (65536 : Nat) = 2 ^ 16 by decide, ← Nat.pow_mul, Nat.mul_assoc, ← Nat.pow_add]; congr 2; omega
    rw [toN_digit hp (by omega)] at hM
    refine Ev.step (f := fun k => (vernierref01_Mul.f k (toN a) [((2 ^ i : Nat) : Int)]).bind fun t190 => (if (List.replicate (n / 16) (0 : Int)).length + t190.length < 17592186044416 then ((vernierref01_cut.f k (List.replicate (n / 16) 0 ++ t190)).bind fun t196 => (some t196)) else none)) (fun k => ?_) (Ev.bind hM ?_)
    · simp only [vernierref01_Shl.l0]
      rw [if_neg]
      rw [Int.tmod_eq_emod_of_nonneg (by omega)]; omega
    · have hb : n / 16 + nd (a * 2 ^ i) < 17592186044416 := big17 (by omega)
      rw [List.length_replicate, toN_len]
      simp only [if_pos hb]
      rw [zeros_toN, he]
      refine Ev.bind (cut_ev _ _ (by omega) ?_) (Ev.now _)
      rw [← he, Nat.mul_comm, Nat.pow_add]
      exact (Nat.mul_lt_mul_left (B_pos _)).2 (lt_nd _)
  | succ d ih =>
    intro i hi
    have hp1 : 2 ^ (i + 1) ≤ 32768 := Nat.pow_le_pow_right (n := 2) (by omega) (show i + 1 ≤ 15 by omega)
    refine Ev.step (fun k => ?_) (ih (i + 1) (by omega))
    simp only [vernierref01_Shl.l0]
    rw [if_pos (by rw [Int.tmod_eq_emod_of_nonneg (by omega)]; omega), wsucc i (by omega), Nat.pow_succ]
    rw [Nat.pow_succ] at hp1
    generalize 2 ^ i = p at *
    rw [w64 (by omega) (by omega), show (2 : Int) * (p : Int) = ((p * 2 : Nat) : Int) by omega]
theorem shl_ev (a n : Nat) (ha : nd a ≤ 30000) (hn : n ≤ 500000) : Ev (fun k => vernierref01_Shl.f k (toN a) n) (toN (a * 2 ^ n)) := by
  refine Ev.congr (fun k => ?_) (shl_l a n ha hn (n % 16) 0 (by omega))
  unfold vernierref01_Shl.f
  rw [Int.tdiv_eq_ediv_of_nonneg (by omega), show (n : Int) / 16 = ((n / 16 : Nat) : Int) by omega, wN _ (by omega), if_pos (by omega), Int.toNat_natCast, if_pos (big35 (by omega)), Nat.pow_zero]; rfl
theorem few_l (b : Nat) (hb : nd b ≤ 20000) : ∀ (j A Q : Nat), j ≤ 60 → nd A ≤ 40000 → A < b * 2 ^ j → (Q + 1) * 2 ^ j ≤ 1152921504606846976 →
    Ev (fun k => vernierref01_Few.l0 k (toN A) (toN b) Q ((j : Int) - 1)) (((Q * 2 ^ j + A / b : Nat) : Int), toN (A % b)) := by
  intro j
  induction j with
  | zero =>
    intro A Q _ _ hA _
    rw [Nat.pow_zero, Nat.mul_one] at hA
    refine Ev.no (fun k => ?_)
    simp only [vernierref01_Few.l0]
    rw [if_neg (by omega), Nat.pow_zero, Nat.mul_one, Nat.div_eq_of_lt hA, Nat.mod_eq_of_lt hA, Nat.add_zero]
  | succ j ih =>
    intro A Q hj hnA hA hQ
    have hb0 : 0 < b := by
      rcases Nat.eq_zero_or_pos b with h | h
      · subst h; rw [Nat.zero_mul] at hA; omega
      · exact h
    have hp : 0 < 2 ^ j := Nat.pow_pos (by omega)
    have hs := shl_ev b j (by omega) (by omega)
    have hns := nd_shl b j
    have hc := cmp_ev A (b * 2 ^ j) (by omega) (by omega)
    have hQ1 : Q + 1 ≤ 1152921504606846976 := Nat.le_trans (Nat.le_mul_of_pos_right _ (Nat.pow_pos (by omega))) hQ
    rw [Nat.pow_succ] at hA hQ
    have hA' : A < b * 2 ^ j + b * 2 ^ j := by rw [← Nat.mul_assoc] at hA; omega
    have w1 : IntKind.u64.wrap (2 * (Q : Int)) = ((2 * Q : Nat) : Int) := by rw [wraps_u64 _ (by omega) (by omega)]; omega
    have w2 : IntKind.u64.wrap (((2 * Q : Nat) : Int) + 1) = ((2 * Q + 1 : Nat) : Int) := by rw [wraps_u64 _ (by omega) (by omega)]; omega
    have w3 : wrap64 ((((j + 1 : Nat) : Int) - 1) - 1) = (j : Int) - 1 := by rw [w64 (by omega) (by omega)]; omega
    have w4 : ((j + 1 : Nat) : Int) - 1 = (j : Int) := by omega
    refine Ev.step (f := fun k => (vernierref01_Shl.f k (toN b) j).bind fun t236 => ((vernierref01_Cmp.f k (toN A) t236).bind fun t239 => (if t239 ≥ 0 then ((vernierref01_Sub.f k (toN A) t236).bind fun t240 => (vernierref01_Few.l0 k t240 (toN b) ((2 * Q + 1 : Nat) : Int) ((j : Int) - 1))) else (vernierref01_Few.l0 k (toN A) (toN b) ((2 * Q : Nat) : Int) ((j : Int) - 1))))) (fun k => ?_) (Ev.bind hs (Ev.bind hc ?_))
    · simp only [vernierref01_Few.l0]
      rw [if_pos (by omega), w1, w2, w3, w4]
    · clear w1 w2 w3 w4 hs hc
      have e2 : Q * 2 ^ (j + 1) = 2 * Q * 2 ^ j := by rw [Nat.pow_succ, Nat.mul_comm 2 Q, Nat.mul_assoc, Nat.mul_comm 2]
      have e3 : (Q + 1) * (2 ^ j * 2) = 2 * Q * 2 ^ j + 2 * 2 ^ j := by rw [Nat.add_mul, ← Nat.pow_succ, e2, Nat.pow_succ]; omega
      rw [e3] at hQ
      by_cases g : b * 2 ^ j ≤ A
      · have hc : cmpN A (b * 2 ^ j) ≥ 0 := by unfold cmpN; rw [if_neg (by omega)]; split <;> omega
        simp only [if_pos hc]
        refine Ev.bind (sub_ev A (b * 2 ^ j) (by omega) g) ?_
        have := ih (A - b * 2 ^ j) (2 * Q + 1) (by omega) (Nat.le_trans (nd_mono (Nat.sub_le _ _)) hnA) (by omega) (by rw [Nat.add_mul, Nat.add_mul]; omega)
        have e4 : A = (A - b * 2 ^ j) + b * 2 ^ j := by omega
        have e5 : A / b = (A - b * 2 ^ j) / b + 2 ^ j := by
          conv => lhs; rw [e4]
          exact Nat.add_mul_div_left _ _ hb0
        have e6 : A % b = (A - b * 2 ^ j) % b := by
          conv => lhs; rw [e4]
          exact Nat.add_mul_mod_self_left _ _ _
        rw [e2, e5, e6]
        rw [Nat.add_mul, Nat.one_mul] at this
        rw [show 2 * Q * 2 ^ j + ((A - b * 2 ^ j) / b + 2 ^ j) = 2 * Q * 2 ^ j + 2 ^ j + (A - b * 2 ^ j) / b by omega]
        exact this
      · have hc : ¬ cmpN A (b * 2 ^ j) ≥ 0 := by unfold cmpN; rw [if_pos (by omega)]; omega
        simp only [if_neg hc]
        rw [e2]
        exact ih A (2 * Q) (by omega) hnA (by omega) (by rw [Nat.add_mul]; omega)
theorem few_ev (a b : Nat) (ha : nd a ≤ 40000) (hb : nd b ≤ 20000) (h : a < b * 2 ^ 60) : Ev (fun k => vernierref01_Few.f k (toN a) (toN b)) (((a / b : Nat) : Int), toN (a % b)) := by
  have := few_l b hb 60 a 0 (by omega) ha h (by decide)
  rw [Nat.zero_mul, Nat.zero_add] at this
  exact this
-- A binary64 number's parts, and what the printed functions of them come to.
def E (a : Int) : Int := a / 4503599627370496 % 2048
def F (a : Int) : Int := a % 4503599627370496
def cls (a : Int) : Int := if E a = 2047 then (if F a = 0 then 2 else 3) else if E a = 0 ∧ F a = 0 then 0 else 1
def sg (a : Int) : Int := if E a = 0 then F a else F a + 4503599627370496
def ex (a : Int) : Int := if E a = 0 then -1074 else E a - 1075
def neg (a : Int) : Bool := decide (a ≥ 9223372036854775808)
theorem E_bd (a : Int) : 0 ≤ E a ∧ E a < 2048 := by unfold E; omega
theorem F_bd (a : Int) : 0 ≤ F a ∧ F a < 4503599627370496 := by unfold F; omega
theorem u64_bd {a : Int} (h : (Lit.int .u64 a).wf = true) : 0 ≤ a ∧ a < 18446744073709551616 := by
  have := (by simpa [Lit.wf, IntKind.min, IntKind.max, IntKind.bits, IntKind.signed] using h : 0 ≤ a ∧ a ≤ 18446744073709551615); omega
theorem i64_bd {a : Int} (h : (Lit.int .i64 a).wf = true) : -9223372036854775808 ≤ a ∧ a < 9223372036854775808 := by
  have := (by simpa [Lit.wf, IntKind.min, IntKind.max, IntKind.bits, IntKind.signed] using h : -9223372036854775808 ≤ a ∧ a ≤ 9223372036854775807); omega
theorem expo {a : Int} (h0 : 0 ≤ a) (h1 : a < 18446744073709551616) : Go.bits .and .u64 (a / 4503599627370496) 2047 = E a := and2047 (by omega) (by omega)
theorem refE {a : Int} (h0 : 0 ≤ a) (h1 : a < 18446744073709551616) : Int.tmod (IntKind.u64.wrap (Int.tdiv a 4503599627370496)) 2048 = E a := by
  rw [Int.tdiv_eq_ediv_of_nonneg h0, wraps_u64 _ (by omega) (by omega), Int.tmod_eq_emod_of_nonneg (by omega)]; rfl
theorem refF {a : Int} (h0 : 0 ≤ a) : Int.tmod a 4503599627370496 = F a := by rw [Int.tmod_eq_emod_of_nonneg h0]; rfl
theorem class_ev {a : Int} (h0 : 0 ≤ a) (h1 : a < 18446744073709551616) : Ev (fun k => parts_Class.f k a) (cls a) := by
  have hf := F_bd a
  have key : ∀ x, Ev (fun k => parts_Class.j0 k (E a) (F a) x) (if x = true then 3 else if E a = 2047 then 2 else if E a = 0 ∧ F a = 0 then 0 else 1) := fun x => by
    refine Ev.no (fun k => ?_)
    simp only [parts_Class.j0]
    by_cases hx : x = true
    · rw [if_pos hx, if_pos hx]
    rw [if_neg hx, if_neg hx]
    by_cases h2 : E a = 2047
    · rw [if_pos h2, if_pos h2]
    rw [if_neg h2, if_neg h2]
    by_cases h3 : E a = 0
    · rw [if_pos h3]
      by_cases h4 : F a = 0
      · rw [if_pos h4, if_pos ⟨h3, h4⟩]
      · rw [if_neg h4, if_neg (fun h => h4 h.2)]
    · rw [if_neg h3, if_neg (fun h => h3 h.1)]
  refine Ev.congr (f := fun k => parts_Class.j0 k (E a) (F a) (decide (E a = 2047 ∧ F a ≠ 0))) (fun k => ?_) ?_
  · unfold parts_Class.f
    rw [expo h0 h1, and52 h0 h1]
    by_cases h2 : E a = 2047
    · rw [if_pos h2]; congr 1
      rw [Bool.eq_iff_iff]; simp [h2]; rfl
    · rw [if_neg h2]; simp [h2]; rfl
  · have := key (decide (E a = 2047 ∧ F a ≠ 0))
    unfold cls
    by_cases h2 : E a = 2047
    · by_cases h3 : F a = 0
      · simp [h2, h3] at this ⊢; exact this
      · simp [h2, h3] at this ⊢; exact this
    · simp [h2] at this ⊢; exact this
theorem rclass_ev {a : Int} (h0 : 0 ≤ a) (h1 : a < 18446744073709551616) : Ev (fun k => vernierref06_Class.f k a) (cls a) := by
  have hf := F_bd a
  have key : ∀ x, Ev (fun k => vernierref06_Class.j0 k (E a) (F a) x) (if x = true then 3 else if E a = 2047 then 2 else if E a = 0 ∧ F a = 0 then 0 else 1) := fun x => by
    refine Ev.no (fun k => ?_)
    simp only [vernierref06_Class.j0]
    by_cases hx : x = true
    · rw [if_pos hx, if_pos hx]
    rw [if_neg hx, if_neg hx]
    by_cases h2 : E a = 2047
    · rw [if_pos h2, if_pos h2]
    rw [if_neg h2, if_neg h2]
    by_cases h3 : E a = 0
    · rw [if_pos h3]
      by_cases h4 : F a = 0
      · rw [if_pos h4, if_pos ⟨h3, h4⟩]
      · rw [if_neg h4, if_neg (fun h => h4 h.2)]
    · rw [if_neg h3, if_neg (fun h => h3 h.1)]
  refine Ev.congr (f := fun k => vernierref06_Class.j0 k (E a) (F a) (decide (E a = 2047 ∧ F a > 0))) (fun k => ?_) ?_
  · unfold vernierref06_Class.f
    rw [refE h0 h1, refF h0]
    by_cases h2 : E a = 2047
    · rw [if_pos h2]; congr 1
      rw [Bool.eq_iff_iff]; simp [h2]
    · rw [if_neg h2]; simp [h2]
  · have := key (decide (E a = 2047 ∧ F a > 0))
    unfold cls
    by_cases h2 : E a = 2047
    · by_cases h3 : F a = 0
      · simp [h2, h3] at this ⊢; exact this
      · have h4 : 0 < F a := by omega
        simp [h2, h3, h4] at this ⊢; exact this
    · simp [h2] at this ⊢; exact this
theorem negb {a : Int} (h0 : 0 ≤ a) (h1 : a < 18446744073709551616) : (Go.bits .and .u64 a 9223372036854775808 != 0) = neg a := by
  rw [and63 h0 h1]; unfold neg
  rw [Bool.eq_iff_iff, bne_iff_ne, decide_eq_true_iff]; omega
theorem split_eq {a : Int} (h0 : 0 ≤ a) (h1 : a < 18446744073709551616) : parts_Split.f a = some (if E a = 2047 then (false, 0, 0, 23) else (neg a, sg a, ex a, 0)) := by
  have he := E_bd a
  have hf := F_bd a
  unfold parts_Split.f
  rw [expo h0 h1, w64 (by omega) (by omega), negb h0 h1, and52 h0 h1]
  by_cases h2 : E a = 2047
  · rw [if_pos h2, if_pos h2]
  · rw [if_neg h2, if_neg h2]
    unfold sg ex
    by_cases h3 : E a = 0
    · rw [if_pos h3, if_pos h3, if_pos h3]; rfl
    · rw [if_neg h3, if_neg h3, if_neg h3, or52 (by omega) (by omega), w64 (by omega) (by omega)]; rfl
theorem rsplit_eq {a : Int} (h0 : 0 ≤ a) (h1 : a < 18446744073709551616) : vernierref06_Split.f a = some (neg a, sg a, if E a = 0 then -1074 else E a - 1075) := by
  have he := E_bd a
  have hf := F_bd a
  unfold vernierref06_Split.f
  rw [refE h0 h1, w64 (by omega) (by omega), refF h0]
  unfold sg
  by_cases h3 : E a = 0
  · rw [if_pos h3, if_pos h3, if_pos h3]; rfl
  · rw [if_neg h3, if_neg h3, if_neg h3, wraps_u64 _ (by omega) (by omega), w64 (by omega) (by omega)]; rfl
-- A natural of two words: how many bits, its shifts, its cut.
theorem bitLenAux_bl : ∀ (f a : Nat), a < 2 ^ f → Lib.bitLenAux f a = bl a := by
  intro f
  induction f with
  | zero => intro a h; obtain rfl : a = 0 := by simpa using h
            rw [bl_zero]; rfl
  | succ f ih =>
    intro a h
    by_cases g : a = 0
    · subst g; rw [bl_zero]; rfl
    · rw [Nat.pow_succ] at h
      rw [bl_pos g, Lib.bitLenAux, if_neg g, ih (a / 2) (by omega), Nat.add_comm]
theorem bitLen_bl {a : Nat} (h : a < 18446744073709551616) : Lib.bitLen a = bl a := bitLenAux_bl 64 a (by simpa using h)
theorem len64 {a : Nat} (h : a < 18446744073709551616) : bits_Len64.f (a : Int) = some (bl a : Int) := by
  unfold bits_Len64.f
  rw [if_pos (by omega), Int.toNat_natCast, bitLen_bl h]
theorem bl64 {a : Nat} (h : a < 18446744073709551616) : bl a ≤ 64 := bl_le (by simpa using h)
theorem bl_wide {h l : Nat} (hl : l < 18446744073709551616) (g : h ≠ 0) : bl (h * 18446744073709551616 + l) = 64 + bl h := by
  have h1 := lt_bl h
  have h2 := le_bl g
  have h3 : bl h = bl h - 1 + 1 := by rw [bl_pos g]; omega
  generalize bl h - 1 = b at *
  rw [h3] at h1 ⊢
  have e : (2 : Nat) ^ (64 + b) = 18446744073709551616 * 2 ^ b := by rw [Nat.pow_add]
  have e' : (2 : Nat) ^ (64 + b + 1) = 18446744073709551616 * 2 ^ (b + 1) := by rw [Nat.add_assoc, Nat.pow_add]
  rw [bl_eq (n := 64 + b)]
  · omega
  · rw [e]; omega
  · rw [e']; omega
theorem wlen {h l : Nat} (hh : h < 18446744073709551616) (hl : l < 18446744073709551616) : parts_wide_len.f (h : Int) (l : Int) = some (bl (h * 18446744073709551616 + l) : Int) := by
  unfold parts_wide_len.f
  by_cases g : h = 0
  · subst g
    rw [if_pos (by rfl), len64 hl, Nat.zero_mul, Nat.zero_add]; rfl
  · have := bl64 hh
    rw [if_neg (by omega), len64 hh, bl_wide hl g]
    simp only [Option.bind_some]
    rw [w64 (by omega) (by omega)]; congr 1
theorem p64 {n : Nat} (h : n ≤ 64) : (2 : Nat) ^ n * 2 ^ (64 - n) = 18446744073709551616 := by rw [← Nat.pow_add, show n + (64 - n) = 64 by omega]
theorem shr_nat {h n : Nat} (hn : n ≤ 64) : shr .u64 (h : Int) (n : Int) = ((h / 2 ^ n : Nat) : Int) := by
  unfold shr
  rw [Int.toNat_natCast, show min n IntKind.u64.bits = n from Nat.min_eq_left hn, Int.natCast_ediv, Int.natCast_pow]; rfl
theorem shl_nat {h n : Nat} (hn : n ≤ 64) : shl .u64 (h : Int) (n : Int) = ((h * 2 ^ n % 18446744073709551616 : Nat) : Int) := by
  unfold shl
  rw [Int.toNat_natCast, show min n IntKind.u64.bits = n from Nat.min_eq_left hn, IntKind.wrap_u64, Int.natCast_emod, Int.natCast_mul, Int.natCast_pow]; rfl
theorem wshr {h l n : Nat} (hh : h < 18446744073709551616) (hl : l < 18446744073709551616) :
    parts_wide_shr.f (h : Int) (l : Int) (n : Int) = some ((((h * 18446744073709551616 + l) / 2 ^ n / 18446744073709551616 : Nat) : Int), (((h * 18446744073709551616 + l) / 2 ^ n % 18446744073709551616 : Nat) : Int)) := by
  unfold parts_wide_shr.f
  by_cases h1 : 128 ≤ n
  · rw [if_pos (by omega)]
    have : (h * 18446744073709551616 + l) / 2 ^ n = 0 := Nat.div_eq_of_lt (Nat.lt_of_lt_of_le (show _ < 2 ^ 128 by omega) (Nat.pow_le_pow_right (by omega) h1))
    rw [this]; rfl
  rw [if_neg (by omega)]
  by_cases h2 : 64 ≤ n
  · rw [if_pos (by omega), w64 (by omega) (by omega), if_pos (by omega), show (n : Int) - 64 = ((n - 64 : Nat) : Int) by omega, shr_nat (by omega)]
    have e : (h * 18446744073709551616 + l) / 2 ^ n = h / 2 ^ (n - 64) := by
      rw [show (2 : Nat) ^ n = 18446744073709551616 * 2 ^ (n - 64) by rw [show (18446744073709551616 : Nat) = 2 ^ 64 by decide, ← Nat.pow_add]; congr 1; omega, ← Nat.div_div_eq_div_mul]
      congr 1; omega
    have e2 : h / 2 ^ (n - 64) < 18446744073709551616 := Nat.lt_of_le_of_lt (Nat.div_le_self _ _) hh
    rw [e, Nat.div_eq_of_lt e2, Nat.mod_eq_of_lt e2]; rfl
  rw [if_neg (by omega)]
  by_cases h3 : n = 0
  · subst h3
    rw [if_pos (by rfl), Nat.pow_zero, Nat.div_one, show (h * 18446744073709551616 + l) / 18446744073709551616 = h by omega, show (h * 18446744073709551616 + l) % 18446744073709551616 = l by omega]
  rw [if_neg (by omega), if_pos (by omega), w64 (by omega) (by omega), if_pos (by omega), show (64 : Int) - (n : Int) = ((64 - n : Nat) : Int) by omega, shr_nat (by omega), shr_nat (by omega), shl_nat (by omega)]
  have hp := p64 (n := n) (by omega)
  have hA : 0 < 2 ^ n := Nat.pow_pos (by omega)
  have hM : 0 < 2 ^ (64 - n) := Nat.pow_pos (by omega)
  have hk : (2 : Int) ^ (64 - n) = ((2 ^ (64 - n) : Nat) : Int) := by rw [Int.natCast_pow]; rfl
  have hj := or64_join (64 - n) ((l / 2 ^ n : Nat) : Int) ((h * 2 ^ (64 - n) % 18446744073709551616 : Nat) : Int)
  rw [hk] at hj
  generalize 2 ^ (64 - n) = M at *
  generalize 2 ^ n = A at *
  have e1 : (h * 18446744073709551616 + l) / A = h * M + l / A := by
    rw [← hp, show h * (A * M) + l = l + A * (h * M) by rw [Nat.mul_left_comm, Nat.add_comm], Nat.add_mul_div_left _ _ hA, Nat.add_comm]
  have e2 : l / A < M := Nat.div_lt_of_lt_mul (by rw [hp]; exact hl)
  have e3 : h * M % (A * M) = h % A * M := Nat.mul_mod_mul_right _ _ _
  have e4 : (h * M + l / A) / (A * M) = h / A := by
    rw [Nat.mul_comm A M, ← Nat.div_div_eq_div_mul, Nat.add_comm, Nat.add_mul_div_right _ _ hM, Nat.div_eq_of_lt e2, Nat.zero_add]
  have e5 : (h * M + l / A) % (A * M) = h % A * M + l / A := by
    have d1 := Nat.div_add_mod (h * M + l / A) (A * M)
    rw [e4] at d1
    have d2 := Nat.div_add_mod h A
    have d3 : A * M * (h / A) + h % A * M = h * M := by
      conv => rhs; rw [← d2]
      rw [Nat.add_mul, Nat.mul_right_comm]
    omega
  have hlt : h % A * M < A * M := Nat.mul_lt_mul_of_pos_right (Nat.mod_lt _ hA) hM
  rw [e1]
  rw [hp] at e3 e4 e5 hlt
  rw [e4, e5]
  rw [e3] at hj ⊢
  have hd : l / A ≤ l := Nat.div_le_self _ _
  generalize l / A = y at *
  have z0 : 0 ≤ ((h % A * M : Nat) : Int) := Int.natCast_nonneg _
  have z1 : ((h % A * M : Nat) : Int) % (M : Int) = 0 := by rw [← Int.natCast_emod, Nat.mul_mod_left]; rfl
  generalize h % A * M = x at *
  have := (hj (by omega) (by omega) z0 z1 (by omega) (by omega)).1
  rw [this, ← Int.natCast_add, Nat.add_comm]
theorem pow_dvd_mod {W i m : Nat} (h : i < m) (hb : W / 2 ^ i % 2 = 1) : W % 2 ^ m ≠ 0 := by
  intro e
  obtain ⟨c, rfl⟩ := Nat.dvd_of_mod_eq_zero e
  rw [show (2 : Nat) ^ m = 2 ^ i * (2 * 2 ^ (m - i - 1)) by rw [← Nat.pow_succ', ← Nat.pow_add]; congr 1; omega, Nat.mul_assoc, Nat.mul_div_cancel_left _ (Nat.pow_pos (by omega)), Nat.mul_assoc] at hb
  omega
theorem wshrW {h l n W : Nat} (hW : h * 18446744073709551616 + l = W) (hh : h < 18446744073709551616) (hl : l < 18446744073709551616) :
    parts_wide_shr.f (h : Int) (l : Int) (n : Int) = some (((W / 2 ^ n / 18446744073709551616 : Nat) : Int), ((W / 2 ^ n % 18446744073709551616 : Nat) : Int)) := by
  rw [wshr hh hl, hW]
theorem wcut_l {h l W : Nat} (hW : h * 18446744073709551616 + l = W) (hh : h < 18446744073709551616) (hl : l < 18446744073709551616) (q : Int) (half : Bool) (m : Nat) (hm : m ≤ 128) :
    ∀ j i : Nat, j + i = m → W % 2 ^ i = 0 → Ev (fun k => parts_wide_cut.l0 k q half m i h l) (q, half, decide (W % 2 ^ m ≠ 0)) := by
  intro j
  induction j with
  | zero =>
    intro i hi hz
    obtain rfl : i = m := by omega
    refine Ev.no (fun k => ?_)
    simp only [parts_wide_cut.l0]
    rw [if_neg (by omega), hz]; rfl
  | succ j ih =>
    intro i hi hz
    have a1 : Go.bits .and .u64 ((W / 2 ^ i % 18446744073709551616 : Nat) : Int) 1 = ((W / 2 ^ i % 2 : Nat) : Int) := by
      generalize W / 2 ^ i = z at *
      rw [and1_u64 (by omega) (by omega)]; omega
    by_cases hb : W / 2 ^ i % 2 = 1
    · refine Ev.no (fun k => ?_)
      simp only [parts_wide_cut.l0]
      rw [if_pos (by omega), wshrW hW hh hl]
      simp only [Option.bind_some]
      rw [a1, hb, if_pos (by rfl), decide_eq_true (pow_dvd_mod (by omega) hb)]
    · refine Ev.step (f := fun k => parts_wide_cut.l0 k q half m ((i + 1 : Nat) : Int) h l) (fun k => ?_) (ih (i + 1) (by omega) ?_)
      · simp only [parts_wide_cut.l0]
        rw [if_pos (by omega), wshrW hW hh hl]
        simp only [Option.bind_some]
        rw [a1, if_neg (by omega), wsucc _ (by omega)]
      · rw [Nat.pow_succ, Nat.mod_mul, hz, show W / 2 ^ i % 2 = 0 by omega, Nat.mul_zero]
theorem cut_pos {h l d W : Nat} (hW : h * 18446744073709551616 + l = W) (hh : h < 18446744073709551616) (hl : l < 18446744073709551616) (hd : 0 < d) (hd' : d < 1000000) :
    Ev (fun k => parts_wide_cut.f k h l d) (((W / 2 ^ d % 18446744073709551616 : Nat) : Int), decide (W / 2 ^ (d - 1) % 2 = 1), decide (W % 2 ^ (d - 1) ≠ 0)) := by
  have a1 : Go.bits .and .u64 ((W / 2 ^ (d - 1) % 18446744073709551616 : Nat) : Int) 1 = ((W / 2 ^ (d - 1) % 2 : Nat) : Int) := by
    generalize W / 2 ^ (d - 1) = z
    rw [and1_u64 (by omega) (by omega)]; omega
  have a2 : (((W / 2 ^ (d - 1) % 2 : Nat) : Int) == 1) = decide (W / 2 ^ (d - 1) % 2 = 1) := by
    generalize W / 2 ^ (d - 1) = z
    rw [Bool.eq_iff_iff, beq_iff_eq, decide_eq_true_iff]; omega
  have hw : wrap64 ((d : Int) - 1) = ((d - 1 : Nat) : Int) := by rw [w64 (by omega) (by omega)]; omega
  have hmin : mn ((d - 1 : Nat) : Int) 128 = ((min (d - 1) 128 : Nat) : Int) := by unfold mn; first | omega | (split <;> omega)
  have he : (W % 2 ^ (min (d - 1) 128) ≠ 0) = (W % 2 ^ (d - 1) ≠ 0) := by
    by_cases g : d - 1 ≤ 128
    · rw [Nat.min_eq_left g]
    · rw [Nat.min_eq_right (by omega), Nat.mod_eq_of_lt (show _ < 2 ^ 128 by omega), Nat.mod_eq_of_lt (Nat.lt_of_lt_of_le (show _ < 2 ^ 128 by omega) (Nat.pow_le_pow_right (by omega) (by omega)))]
  refine Ev.congr (f := fun k => parts_wide_cut.l0 k ((W / 2 ^ d % 18446744073709551616 : Nat) : Int) (decide (W / 2 ^ (d - 1) % 2 = 1)) ((min (d - 1) 128 : Nat) : Int) ((0 : Nat) : Int) h l) (fun k => ?_) ?_
  · unfold parts_wide_cut.f
    rw [if_neg (by omega), wshrW hW hh hl, hw, wshrW hW hh hl]
    simp only [Option.bind_some]
    rw [a1, a2, hmin]; rfl
  · have := wcut_l hW hh hl ((W / 2 ^ d % 18446744073709551616 : Nat) : Int) (decide (W / 2 ^ (d - 1) % 2 = 1)) (min (d - 1) 128) (by omega) (min (d - 1) 128) 0 (by omega) (by rw [Nat.pow_zero, Nat.mod_one])
    simp only [he] at this
    exact this
theorem cut_neg {h l d W : Nat} (e : h * 18446744073709551616 + l = W) (k : Nat) (hl : l < 18446744073709551616) (hd : d ≤ 64) (hW : W * 2 ^ d < 18446744073709551616) :
    parts_wide_cut.f k h l (-(d : Int)) = some (((W * 2 ^ d : Nat) : Int), false, false) := by
  have hp : 1 ≤ 2 ^ d := Nat.pow_pos (by omega)
  have h0 : h = 0 := by
    have := Nat.le_mul_of_pos_right W hp
    omega
  subst h0
  rw [Nat.zero_mul, Nat.zero_add] at e
  subst e
  unfold parts_wide_cut.f
  rw [if_pos (by omega), w64 (by omega) (by omega), if_pos (by omega), show -(-(d : Int)) = (d : Int) by omega, shl_nat hd, Nat.mod_eq_of_lt hW]
-- parts.Round: what comes of a cut; then all of it.
def upP (neg : Bool) (q : Int) (half rest : Bool) (mode : Int) : Bool :=
  if mode = 1 then half else if mode = 2 then false else if mode = 3 then !neg && (half || rest) else if mode = 4 then neg && (half || rest) else half && (rest || decide (q % 2 = 1))
def farP (neg : Bool) (mode : Int) : Bool := decide (mode < 2) || decide (4 < mode) || (decide (mode = 3) && !neg) || (decide (mode = 4) && neg)
def sgn (neg : Bool) : Int := if neg then 9223372036854775808 else 0
def res (neg : Bool) (mode c fl : Int) : Int × Int :=
  if 9218868437227405312 ≤ c then (sgn neg + (if farP neg mode then 9218868437227405312 else 9218868437227405311), 20) else (sgn neg + c, fl)
def fin (neg : Bool) (C : Int) (half rest tiny : Bool) (mode : Int) : Int × Int :=
  res neg mode (C + (if upP neg C half rest mode then 1 else 0)) (if (half || rest) = true then (if tiny = true then 24 else 16) else 0)
def cutP (W : Nat) (d : Int) : Nat × Bool × Bool :=
  if d ≤ 0 then (W * 2 ^ (-d).toNat, false, false) else (W / 2 ^ d.toNat, decide (W / 2 ^ (d.toNat - 1) % 2 = 1), decide (W % 2 ^ (d.toNat - 1) ≠ 0))
def clampP (x : Int) : Int := mn (mx x (-16384)) 16384
theorem clamp_bd (x : Int) : -16384 ≤ clampP x ∧ clampP x ≤ 16384 := by unfold clampP mn mx; split <;> split <;> omega
def eP (n : Nat) (x : Int) : Int := mx (x + n - 53) (-1074)
def roundP (neg : Bool) (W : Nat) (x0 : Int) (more : Bool) (mode : Int) : Int × Int :=
  if W = 0 then (sgn neg, 0) else
  let x := clampP x0
  let e := eP (bl W) x
  let c := cutP W (e - x)
  fin neg ((c.1 : Int) + (e + 1074) * 4503599627370496) c.2.1 (c.2.2 || (more && (decide (55 ≤ bl W) || decide (x ≤ -1080)))) (decide (x + bl W < -1021)) mode
theorem up_eq (neg : Bool) {q : Int} (h0 : 0 ≤ q) (h1 : q < 18446744073709551616) (half rest : Bool) (mode : Int) : parts_up.f neg q half rest mode = some (upP neg q half rest mode) := by
  have hb : (Go.bits .and .u64 q 1 == 1) = decide (q % 2 = 1) := by rw [and1_u64 h0 h1, Bool.eq_iff_iff, beq_iff_eq, decide_eq_true_iff]
  unfold parts_up.f upP
  rw [hb]
  by_cases h1 : mode = 1
  · rw [if_pos h1, if_pos h1]
  rw [if_neg h1, if_neg h1]
  by_cases h2 : mode = 2
  · rw [if_pos h2, if_pos h2]
  rw [if_neg h2, if_neg h2]
  by_cases h3 : mode = 3
  · rw [if_pos h3, if_pos h3]; cases neg <;> cases half <;> rfl
  rw [if_neg h3, if_neg h3]
  by_cases h4 : mode = 4
  · rw [if_pos h4, if_pos h4]; cases neg <;> cases half <;> rfl
  rw [if_neg h4, if_neg h4]
  cases half <;> cases rest <;> rfl
theorem zero_sgn (b : Bool) : parts_Zero.f b = some (sgn b) := by cases b <;> rfl
theorem inf_eq (b : Bool) : parts_Inf.f b = some (sgn b + 9218868437227405312) := by cases b <;> decide +kernel
theorem great_eq (b : Bool) : parts_greatest.f b = some (sgn b + 9218868437227405311) := by cases b <;> decide +kernel
theorem over_j (neg x : Bool) : Ev (fun k => parts_over.j0 k neg x) (sgn neg + (if x then 9218868437227405312 else 9218868437227405311), 20) := by
  refine Ev.no (fun k => ?_)
  simp only [parts_over.j0]
  cases x
  · rw [if_neg (by decide), great_eq]; rfl
  · rw [if_pos rfl, inf_eq]; rfl
theorem over_ev (neg : Bool) (mode : Int) : Ev (fun k => parts_over.f k neg mode) (sgn neg + (if farP neg mode then 9218868437227405312 else 9218868437227405311), 20) := by
  refine Ev.congr (f := fun k => parts_over.j0 k neg (farP neg mode)) (fun k => ?_) (over_j neg _)
  unfold parts_over.f farP
  by_cases h1 : mode < 2
  · rw [if_pos h1]; simp [h1]
  rw [if_neg h1]
  by_cases h2 : mode > 4
  · rw [if_pos h2]; simp [show 4 < mode from h2]
  rw [if_neg h2]
  by_cases h3 : mode = 3
  · subst h3; cases neg <;> rfl
  rw [if_neg h3]
  by_cases h4 : mode = 4
  · subst h4; cases neg <;> rfl
  rw [if_neg h4]; simp [h1, h3, h4, show ¬ 4 < mode from h2]
theorem put_eq (neg : Bool) {q e : Int} (h0 : 0 ≤ q) (h1 : q < 9007199254740992) (h2 : -1074 ≤ e) (h3 : e + 1075 < 2047) (hc : 4503599627370496 ≤ q ∨ e = -1074) :
    parts_put.f neg q e = some (sgn neg + (q + (e + 1074) * 4503599627370496)) := by
  have hs : sgn neg = 0 ∨ sgn neg = 9223372036854775808 := by cases neg <;> simp [sgn]
  unfold parts_put.f
  rw [zero_sgn]
  simp only [Option.bind_some]
  generalize sgn neg = s at *
  by_cases g : q < 4503599627370496
  · rw [if_pos g, (or64_join 52 q s h0 (by omega) (by omega) (by omega) (by omega) (by omega)).2]
    congr 1; omega
  · rw [if_neg g, w64 (by omega) (by omega), wraps_u64 (e + 1075) (by omega) (by omega), wraps_u64 _ (by omega) (by omega), and52 h0 (by omega)]
    have hj : Go.bits .or .u64 s ((e + 1075) * 4503599627370496) = s + (e + 1075) * 4503599627370496 := (or64_join 63 ((e + 1075) * 4503599627370496) s (by omega) (by omega) (by omega) (by omega) (by omega) (by omega)).2
    rw [hj, (or64_join 52 (q % 4503599627370496) (s + (e + 1075) * 4503599627370496) (by omega) (by omega) (by omega) (by omega) (by omega) (by omega)).2]
    congr 1; omega
theorem j6_ev (neg : Bool) (mode : Int) {q e : Int} (fl : Int) (h0 : 0 ≤ q) (h1 : q < 9007199254740992) (h2 : -1074 ≤ e) (hc : 4503599627370496 ≤ q ∨ e = -1074) (x : Bool)
    (hx : x = decide (9218868437227405312 ≤ q + (e + 1074) * 4503599627370496)) :
    Ev (fun k => parts_Round.j6 k neg mode e q fl x) (res neg mode (q + (e + 1074) * 4503599627370496) fl) := by
  unfold res
  by_cases g : 9218868437227405312 ≤ q + (e + 1074) * 4503599627370496
  · rw [if_pos g]
    refine Ev.step (f := fun k => (parts_over.f k neg mode).bind fun bt => some (bt.1, bt.2)) (fun k => ?_) (Ev.bind (over_ev neg mode) (Ev.now _))
    simp only [parts_Round.j6]
    rw [hx, decide_eq_true g, if_pos rfl]
  · rw [if_neg g]
    refine Ev.no (fun k => ?_)
    simp only [parts_Round.j6]
    rw [hx, decide_eq_false g, if_neg (by decide), put_eq neg h0 h1 h2 (by omega) hc]; rfl
theorem j5_ev (neg : Bool) (mode : Int) {q e : Int} (fl : Int) (h0 : 0 ≤ q) (h1 : q < 9007199254740992) (h2 : -1074 ≤ e) (h3 : e < 100000) (hc : 4503599627370496 ≤ q ∨ e = -1074) :
    Ev (fun k => parts_Round.j5 k neg mode e q fl) (res neg mode (q + (e + 1074) * 4503599627370496) fl) := by
  refine Ev.step (fun k => ?_) (j6_ev neg mode fl h0 h1 h2 hc _ rfl)
  simp only [parts_Round.j5]
  by_cases g : q ≥ 4503599627370496
  · rw [if_pos g, w64 (by omega) (by omega)]
    congr 1
    rw [Bool.eq_iff_iff, decide_eq_true_iff, decide_eq_true_iff]; omega
  · rw [if_neg g]
    congr 1
    rw [decide_eq_false]; omega
theorem j4_ev (neg : Bool) (mode : Int) {q e : Int} (fl : Int) (h0 : 0 ≤ q) (h1 : q ≤ 9007199254740992) (h2 : -1074 ≤ e) (h3 : e < 90000) (hc : 4503599627370496 ≤ q ∨ e = -1074) :
    Ev (fun k => parts_Round.j4 k neg mode e q fl) (res neg mode (q + (e + 1074) * 4503599627370496) fl) := by
  by_cases g : q = 9007199254740992
  · have := j5_ev neg mode (q := 4503599627370496) (e := e + 1) fl (by omega) (by omega) (by omega) (by omega) (Or.inl (by omega))
    rw [show 4503599627370496 + (e + 1 + 1074) * 4503599627370496 = q + (e + 1074) * 4503599627370496 by omega] at this
    refine Ev.step (fun k => ?_) this
    simp only [parts_Round.j4]
    rw [if_pos g, w64 (by omega) (by omega)]
  · refine Ev.step (fun k => ?_) (j5_ev neg mode fl h0 (by omega) h2 (by omega) hc)
    simp only [parts_Round.j4]
    rw [if_neg g]
theorem j3_ev (neg : Bool) (mode : Int) {q e : Int} (half rest : Bool) (fl : Int) (h0 : 0 ≤ q) (h1 : q < 9007199254740992) (h2 : -1074 ≤ e) (h3 : e < 90000) (hc : 4503599627370496 ≤ q ∨ e = -1074) :
    Ev (fun k => parts_Round.j3 k neg mode e q half rest fl) (res neg mode (q + (e + 1074) * 4503599627370496 + (if upP neg (q + (e + 1074) * 4503599627370496) half rest mode then 1 else 0)) fl) := by
  have hu : upP neg (q + (e + 1074) * 4503599627370496) half rest mode = upP neg q half rest mode := by
    unfold upP
    rw [show (q + (e + 1074) * 4503599627370496) % 2 = q % 2 by omega]
  rw [hu]
  by_cases g : upP neg q half rest mode = true
  · have := j4_ev neg mode (q := q + 1) (e := e) fl (by omega) (by omega) h2 h3 (by omega)
    rw [show q + 1 + (e + 1074) * 4503599627370496 = q + (e + 1074) * 4503599627370496 + 1 by omega] at this
    rw [if_pos g]
    refine Ev.step (fun k => ?_) this
    simp only [parts_Round.j3]
    rw [up_eq neg h0 (by omega)]
    simp only [Option.bind_some]
    rw [if_pos g, wraps_u64 _ (by omega) (by omega)]
  · rw [if_neg g, Int.add_zero]
    refine Ev.step (fun k => ?_) (j4_ev neg mode fl h0 (by omega) h2 h3 hc)
    simp only [parts_Round.j3]
    rw [up_eq neg h0 (by omega)]
    simp only [Option.bind_some]
    rw [if_neg g]
theorem j1_ev (neg : Bool) (mode x : Int) (n : Nat) {q e : Int} (half rest : Bool) (h0 : 0 ≤ q) (h1 : q < 9007199254740992) (h2 : -1074 ≤ e) (h3 : e < 90000) (hc : 4503599627370496 ≤ q ∨ e = -1074)
    (hx : -100000 < x) (hx' : x < 100000) (hn : n < 100000) :
    Ev (fun k => parts_Round.j1 k neg x mode n e q half rest) (fin neg (q + (e + 1074) * 4503599627370496) half rest (decide (x + n < -1021)) mode) := by
  have hf : ∀ fl, Ev (fun k => parts_Round.j3 k neg mode e q half rest fl) (res neg mode (q + (e + 1074) * 4503599627370496 + (if upP neg (q + (e + 1074) * 4503599627370496) half rest mode then 1 else 0)) fl) := fun fl => j3_ev neg mode half rest fl h0 h1 h2 h3 hc
  have hw : wrap64 (wrap64 (x + n) - 1) = x + n - 1 := by rw [w64 (x := x + n) (by omega) (by omega), w64 (by omega) (by omega)]
  have hj : ∀ y : Bool, Ev (fun k => parts_Round.j2 k neg x mode n e q half rest 0 y) (res neg mode (q + (e + 1074) * 4503599627370496 + (if upP neg (q + (e + 1074) * 4503599627370496) half rest mode then 1 else 0)) (if y = true then (if decide (x + n < -1021) = true then 24 else 16) else 0)) := by
    intro y
    refine Ev.step (fun k => ?_) (hf _)
    simp only [parts_Round.j2]
    rw [hw]
    by_cases hy : y = true
    · rw [if_pos hy, if_pos hy]
      by_cases ht : x + n < -1021
      · rw [if_pos (show x + n - 1 < -1022 by omega), if_pos (decide_eq_true ht)]; rfl
      · rw [if_neg (show ¬ x + n - 1 < -1022 by omega), if_neg (by rw [decide_eq_true_iff]; exact ht)]
    · rw [if_neg hy, if_neg hy]
  refine Ev.step (fun k => ?_) (hj (half || rest))
  simp only [parts_Round.j1]
  cases half
  · rw [if_neg (by decide)]; rfl
  · rw [if_pos rfl]; rfl
theorem eP_bd (n : Nat) (x : Int) : eP n x = x + n - 53 ∨ eP n x = -1074 := by unfold eP mx; split <;> omega
theorem eP_ge (n : Nat) (x : Int) : x + n - 53 ≤ eP n x ∧ -1074 ≤ eP n x := by unfold eP mx; split <;> omega
theorem cutP_bd {W : Nat} (hW : W ≠ 0) (x : Int) :
    (cutP W (eP (bl W) x - x)).1 < 9007199254740992 ∧ (4503599627370496 ≤ (cutP W (eP (bl W) x - x)).1 ∨ eP (bl W) x = -1074) := by
  have h1 := lt_bl W
  have h2 := le_bl hW
  have h3 : 1 ≤ bl W := by rw [bl_pos hW]; omega
  have he := eP_bd (bl W) x
  have hg := eP_ge (bl W) x
  generalize eP (bl W) x = e at *
  generalize bl W = n at *
  unfold cutP
  by_cases g : e - x ≤ 0
  · rw [if_pos g]
    obtain ⟨d, hd⟩ : ∃ d : Nat, -(e - x) = (d : Int) := ⟨(-(e - x)).toNat, by omega⟩
    rw [hd, Int.toNat_natCast]
    have hp : 0 < 2 ^ d := Nat.pow_pos (by omega)
    constructor
    · show W * 2 ^ d < 9007199254740992
      refine Nat.lt_of_lt_of_le ((Nat.mul_lt_mul_right hp).2 h1) ?_
      rw [← Nat.pow_add]
      exact Nat.pow_le_pow_right (show 2 > 0 by omega) (show n + d ≤ 53 by omega)
    · rcases he with he | he
      · left
        show 4503599627370496 ≤ W * 2 ^ d
        refine Nat.le_trans ?_ (Nat.mul_le_mul_right _ h2)
        rw [← Nat.pow_add]
        exact Nat.pow_le_pow_right (show 2 > 0 by omega) (show 52 ≤ n - 1 + d by omega)
      · right; exact he
  · rw [if_neg g]
    obtain ⟨d, hd⟩ : ∃ d : Nat, (e - x) = (d : Int) := ⟨(e - x).toNat, by omega⟩
    rw [hd, Int.toNat_natCast]
    have hp : 0 < 2 ^ d := Nat.pow_pos (by omega)
    constructor
    · show W / 2 ^ d < 9007199254740992
      refine Nat.div_lt_of_lt_mul (Nat.lt_of_lt_of_le h1 ?_)
      rw [show (9007199254740992 : Nat) = 2 ^ 53 by decide, ← Nat.pow_add]
      exact Nat.pow_le_pow_right (by omega) (by omega)
    · rcases he with he | he
      · left
        show 4503599627370496 ≤ W / 2 ^ d
        refine (Nat.le_div_iff_mul_le hp).2 (Nat.le_trans ?_ h2)
        rw [show (4503599627370496 : Nat) = 2 ^ 52 by decide, ← Nat.pow_add]
        exact Nat.pow_le_pow_right (by omega) (by omega)
      · right; exact he
theorem cutP_ev {h l W : Nat} (e0 : h * 18446744073709551616 + l = W) (hh : h < 18446744073709551616) (hl : l < 18446744073709551616) (hW : W ≠ 0) {x : Int} (hx : -16384 ≤ x) (hx' : x ≤ 16384) :
    Ev (fun k => parts_wide_cut.f k h l (eP (bl W) x - x)) (((cutP W (eP (bl W) x - x)).1 : Int), (cutP W (eP (bl W) x - x)).2.1, (cutP W (eP (bl W) x - x)).2.2) := by
  have hb := (cutP_bd hW x).1
  have h3 : bl W ≤ 128 := bl_le (show W < 2 ^ 128 by omega)
  have h4 : 1 ≤ bl W := by rw [bl_pos hW]; omega
  have he := eP_bd (bl W) x
  have hg := eP_ge (bl W) x
  generalize eP (bl W) x = e at *
  generalize bl W = n at *
  unfold cutP at hb ⊢
  by_cases g : e - x ≤ 0
  · obtain ⟨d, hd⟩ : ∃ d : Nat, e - x = -(d : Int) := ⟨(-(e - x)).toNat, by omega⟩
    rw [if_pos g] at hb ⊢
    rw [hd, Int.neg_neg, Int.toNat_natCast] at hb
    rw [hd, Int.neg_neg, Int.toNat_natCast]
    refine Ev.congr (fun k => ?_) (Ev.now _)
    have hb' : W * 2 ^ d < 9007199254740992 := hb
    have hd' : d ≤ 64 := by omega
    subst e0
    exact cut_neg rfl k hl hd' (Nat.lt_trans hb' (by omega))
  · obtain ⟨d, hd⟩ : ∃ d : Nat, (e - x) = (d : Int) := ⟨(e - x).toNat, by omega⟩
    rw [if_neg g] at hb ⊢
    rw [hd, Int.toNat_natCast] at hb
    rw [hd, Int.toNat_natCast]
    have hb' : W / 2 ^ d < 9007199254740992 := hb
    have := cut_pos e0 hh hl (d := d) (by omega) (by omega)
    rw [Nat.mod_eq_of_lt (Nat.lt_trans hb' (by omega))] at this
    exact this
theorem round_ev (neg : Bool) {h l W : Nat} (e0 : h * 18446744073709551616 + l = W) (hh : h < 18446744073709551616) (hl : l < 18446744073709551616) (x0 : Int) (more : Bool) (mode : Int) :
    Ev (fun k => parts_Round.f k neg h l x0 more mode) (roundP neg W x0 more mode) := by
  have hlen := wlen hh hl
  rw [e0] at hlen
  unfold roundP
  by_cases hW : W = 0
  · subst hW
    rw [if_pos rfl]
    refine Ev.congr (fun k => ?_) (Ev.now _)
    unfold parts_Round.f
    rw [hlen, bl_zero]
    simp only [Option.bind_some]
    rw [if_pos (by rfl), zero_sgn]; rfl
  rw [if_neg hW]
  obtain ⟨hx, hx'⟩ := clamp_bd x0
  have h3 : bl W ≤ 128 := bl_le (show W < 2 ^ 128 by omega)
  have h4 : 1 ≤ bl W := by rw [bl_pos hW]; omega
  have hj : ∀ y : Bool, Ev (fun k => parts_Round.j0 k neg (clampP x0) y mode (bl W : Int) h l) (fin neg (((cutP W (eP (bl W) (clampP x0) - clampP x0)).1 : Int) + (eP (bl W) (clampP x0) + 1074) * 4503599627370496) (cutP W (eP (bl W) (clampP x0) - clampP x0)).2.1 ((cutP W (eP (bl W) (clampP x0) - clampP x0)).2.2 || y) (decide (clampP x0 + bl W < -1021)) mode) := by
    intro y
    have hc := cutP_ev e0 hh hl hW hx hx'
    have hb := cutP_bd hW (clampP x0)
    have he := eP_bd (bl W) (clampP x0)
    have hg := eP_ge (bl W) (clampP x0)
    have hw : mx (wrap64 (wrap64 (wrap64 (clampP x0 + (bl W : Int)) - 1) - 52)) (-1074) = eP (bl W) (clampP x0) := by
      rw [w64 (x := clampP x0 + (bl W : Int)) (by omega) (by omega), w64 (x := clampP x0 + (bl W : Int) - 1) (by omega) (by omega), w64 (by omega) (by omega)]
      unfold eP; congr 1; omega
    generalize cutP W (eP (bl W) (clampP x0) - clampP x0) = c at *
    generalize eP (bl W) (clampP x0) = e at *
    generalize clampP x0 = x at *
    generalize bl W = n at *
    refine Ev.step (f := fun k => (parts_wide_cut.f k h l (e - x)).bind fun bt126 => (if bt126.2.2 = true then (parts_Round.j1 k neg x mode n e bt126.1 bt126.2.1 true) else (parts_Round.j1 k neg x mode n e bt126.1 bt126.2.1 y))) (fun k => ?_) (Ev.bind hc ?_)
    · simp only [parts_Round.j0]
      rw [hw, w64 (x := e - x) (by omega) (by omega)]
    · have hf : ∀ r : Bool, Ev (fun k => parts_Round.j1 k neg x mode n e (c.1 : Int) c.2.1 r) (fin neg ((c.1 : Int) + (e + 1074) * 4503599627370496) c.2.1 r (decide (x + n < -1021)) mode) := fun r => by
        have h5 : 4503599627370496 ≤ (c.1 : Int) ∨ e = -1074 := by omega
        have h6 : (c.1 : Int) < 9007199254740992 := by omega
        exact j1_ev neg mode x n c.2.1 r (Int.natCast_nonneg _) h6 (by omega) (by omega) h5 (by omega) (by omega) (by omega)
      by_cases g : c.2.2 = true
      · simp only [if_pos g]
        rw [show (c.2.2 || y) = true by rw [g]; rfl]
        exact hf true
      · simp only [if_neg g]
        rw [show (c.2.2 || y) = y by rw [Bool.not_eq_true] at g; rw [g]; rfl]
        exact hf y
  refine Ev.congr (f := fun k => parts_Round.j0 k neg (clampP x0) (more && (decide (55 ≤ bl W) || decide (clampP x0 ≤ -1080))) mode (bl W : Int) h l) (fun k => ?_) (hj _)
  unfold parts_Round.f
  rw [hlen]
  simp only [Option.bind_some]
  rw [if_neg (by omega)]
  change (if more = true then (if (bl W : Int) ≥ 55 then parts_Round.j0 k neg (clampP x0) true mode (bl W : Int) h l else parts_Round.j0 k neg (clampP x0) (decide (clampP x0 ≤ -1080)) mode (bl W : Int) h l) else parts_Round.j0 k neg (clampP x0) false mode (bl W : Int) h l) = _
  generalize clampP x0 = x at *
  generalize bl W = n at *
  cases more
  · rw [if_neg (by decide)]; rfl
  · rw [if_pos rfl]
    by_cases g : (55 : Nat) ≤ n
    · rw [if_pos (show (n : Int) ≥ 55 by omega), decide_eq_true g]; rfl
    · rw [if_neg (show ¬ (n : Int) ≥ 55 by omega), decide_eq_false g]; rfl
-- vernierref06.Round, plainly: what comes of a quotient and a rest; then all of it.
theorem rzero_sgn (b : Bool) : vernierref06_Zero.f b = some (sgn b) := by cases b <;> rfl
theorem rinf_eq (b : Bool) : vernierref06_Inf.f b = some (sgn b + 9218868437227405312) := by cases b <;> decide +kernel
theorem big_j (neg x : Bool) : Ev (fun k => vernierref06_big.j0 k neg x) (sgn neg + (if x then 9218868437227405311 else 9218868437227405312), 20) := by
  refine Ev.no (fun k => ?_)
  simp only [vernierref06_big.j0]
  rw [rinf_eq]
  cases x
  · rw [if_neg (by decide)]; rfl
  · rw [if_pos rfl]; cases neg <;> rfl
theorem big_ev (neg : Bool) (mode : Int) : Ev (fun k => vernierref06_big.f k neg mode) (sgn neg + (if farP neg mode then 9218868437227405312 else 9218868437227405311), 20) := by
  have h := big_j neg (!farP neg mode)
  rw [show (if (!farP neg mode) = true then (9218868437227405311 : Int) else 9218868437227405312) = if farP neg mode = true then 9218868437227405312 else 9218868437227405311 by cases farP neg mode <;> rfl] at h
  refine Ev.congr (fun k => ?_) h
  unfold vernierref06_big.f farP
  by_cases h2 : mode = 2
  · subst h2; rw [if_pos rfl]; cases neg <;> rfl
  rw [if_neg h2]
  by_cases h3 : mode = 3
  · subst h3; rw [if_pos rfl]; cases neg <;> rfl
  rw [if_neg h3]
  by_cases h4 : mode = 4
  · subst h4; rw [if_pos rfl]; cases neg <;> rfl
  rw [if_neg h4]
  have : (decide (mode < 2) || decide (4 < mode)) = true := by rw [Bool.or_eq_true, decide_eq_true_iff, decide_eq_true_iff]; omega
  rw [this]; rfl
theorem rj7_ev (neg : Bool) (mode : Int) {q e : Int} (fl : Int) (h0 : 0 ≤ q) (h1 : q < 9007199254740992) (h2 : -1074 ≤ e) (hc : 4503599627370496 ≤ q ∨ e = -1074) (x : Bool)
    (hx : x = decide (9218868437227405312 ≤ q + (e + 1074) * 4503599627370496)) :
    Ev (fun k => vernierref06_Round.j7 k neg mode e q fl x) (res neg mode (q + (e + 1074) * 4503599627370496) fl) := by
  unfold res
  by_cases g : 9218868437227405312 ≤ q + (e + 1074) * 4503599627370496
  · rw [if_pos g]
    refine Ev.step (f := fun k => (vernierref06_big.f k neg mode).bind fun bt => some (bt.1, bt.2)) (fun k => ?_) (Ev.bind (big_ev neg mode) (Ev.now _))
    simp only [vernierref06_Round.j7]
    rw [hx, decide_eq_true g, if_pos rfl]
  · rw [if_neg g]
    have hs : sgn neg = 0 ∨ sgn neg = 9223372036854775808 := by cases neg <;> simp [sgn]
    refine Ev.no (fun k => ?_)
    simp only [vernierref06_Round.j7]
    rw [hx, decide_eq_false g, if_neg (by decide), rzero_sgn]
    simp only [Option.bind_some]
    generalize sgn neg = s at *
    by_cases g2 : q < 4503599627370496
    · rw [if_pos g2, wraps_u64 _ (by omega) (by omega)]
      congr 2; omega
    · rw [if_neg g2, w64 (by omega) (by omega), wraps_u64 (e + 1075) (by omega) (by omega), wraps_u64 ((e + 1075) * 4503599627370496) (by omega) (by omega), wraps_u64 (s + (e + 1075) * 4503599627370496) (by omega) (by omega), wraps_u64 (s + (e + 1075) * 4503599627370496 + q) (by omega) (by omega), wraps_u64 _ (by omega) (by omega)]
      congr 2; omega
theorem rj6_ev (neg : Bool) (mode : Int) {q e : Int} (fl : Int) (h0 : 0 ≤ q) (h1 : q < 9007199254740992) (h2 : -1074 ≤ e) (hc : 4503599627370496 ≤ q ∨ e = -1074) :
    Ev (fun k => vernierref06_Round.j6 k neg mode e q fl) (res neg mode (q + (e + 1074) * 4503599627370496) fl) := by
  refine Ev.step (fun k => ?_) (rj7_ev neg mode fl h0 h1 h2 hc _ rfl)
  simp only [vernierref06_Round.j6]
  by_cases g : q ≥ 4503599627370496
  · rw [if_pos g]
    congr 1
    rw [Bool.eq_iff_iff, decide_eq_true_iff, decide_eq_true_iff]; omega
  · rw [if_neg g]
    congr 1
    rw [decide_eq_false]; omega
theorem rj5_ev (neg : Bool) (mode : Int) {q e : Int} (fl : Int) (h0 : 0 ≤ q) (h1 : q ≤ 9007199254740992) (h2 : -1074 ≤ e) (h3 : e < 90000) (hc : 4503599627370496 ≤ q ∨ e = -1074) :
    Ev (fun k => vernierref06_Round.j5 k neg mode e q fl) (res neg mode (q + (e + 1074) * 4503599627370496) fl) := by
  by_cases g : q = 9007199254740992
  · have := rj6_ev neg mode (q := 4503599627370496) (e := e + 1) fl (by omega) (by omega) (by omega) (Or.inl (by omega))
    rw [show 4503599627370496 + (e + 1 + 1074) * 4503599627370496 = q + (e + 1074) * 4503599627370496 by omega] at this
    refine Ev.step (fun k => ?_) this
    simp only [vernierref06_Round.j5]
    rw [if_pos (by omega), w64 (by omega) (by omega), Int.tdiv_eq_ediv_of_nonneg h0, wraps_u64 _ (by omega) (by omega), show q / 2 = 4503599627370496 by omega]
  · refine Ev.step (fun k => ?_) (rj6_ev neg mode fl h0 (by omega) h2 hc)
    simp only [vernierref06_Round.j5]
    rw [if_neg (by omega)]
theorem rj3_ev (neg : Bool) (mode : Int) {q e : Int} (half rest tiny : Bool) (h0 : 0 ≤ q) (h1 : q < 9007199254740992) (h2 : -1074 ≤ e) (h3 : e < 90000) (hc : 4503599627370496 ≤ q ∨ e = -1074) :
    Ev (fun k => vernierref06_Round.j3 k neg mode e q (half || rest) tiny (upP neg q half rest mode)) (fin neg (q + (e + 1074) * 4503599627370496) half rest tiny mode) := by
  have hu : upP neg (q + (e + 1074) * 4503599627370496) half rest mode = upP neg q half rest mode := by
    unfold upP
    rw [show (q + (e + 1074) * 4503599627370496) % 2 = q % 2 by omega]
  have h4 : ∀ q' : Int, 0 ≤ q' → q' ≤ 9007199254740992 → (4503599627370496 ≤ q' ∨ e = -1074) → Ev (fun k => vernierref06_Round.j4 k neg mode e q' (half || rest) tiny) (res neg mode (q' + (e + 1074) * 4503599627370496) (if (half || rest) = true then (if tiny = true then 24 else 16) else 0)) := fun q' a b c => by
    refine Ev.step (fun k => ?_) (rj5_ev neg mode _ a b h2 h3 c)
    simp only [vernierref06_Round.j4]
    cases (half || rest) <;> cases tiny <;> rfl
  unfold fin
  rw [hu]
  by_cases g : upP neg q half rest mode = true
  · rw [if_pos g]
    have := h4 (q + 1) (by omega) (by omega) (by omega)
    rw [show q + 1 + (e + 1074) * 4503599627370496 = q + (e + 1074) * 4503599627370496 + 1 by omega] at this
    refine Ev.step (fun k => ?_) this
    simp only [vernierref06_Round.j3]
    rw [if_pos g, wraps_u64 _ (by omega) (by omega)]
  · rw [if_neg g, Int.add_zero]
    refine Ev.step (fun k => ?_) (h4 q h0 (by omega) hc)
    simp only [vernierref06_Round.j3]
    rw [if_neg g]
def shA (N : Nat) (s : Int) : Nat := N * 2 ^ s.toNat
def shB (D : Nat) (s : Int) : Nat := D * 2 ^ (-s).toNat
theorem shift_ev (N D : Nat) (hN : nd N ≤ 15000) (hD : nd D ≤ 15000) (s : Int) (h0 : -50000 ≤ s) (h1 : s ≤ 50000) :
    Ev (fun k => vernierref06_shift.f k (toN N) (toN D) s) (toN (shA N s), toN (shB D s)) := by
  unfold vernierref06_shift.f shA shB
  by_cases g : s ≥ 0
  · obtain ⟨m, hm⟩ := Int.eq_ofNat_of_zero_le g
    subst hm
    simp only [if_pos g]
    rw [Int.toNat_natCast, show (-(m : Int)).toNat = 0 by omega, Nat.pow_zero, Nat.mul_one]
    exact Ev.bind (shl_ev N m (by omega) (by omega)) (Ev.now _)
  · obtain ⟨m, hm⟩ : ∃ m : Nat, s = -(m : Int) := ⟨(-s).toNat, by omega⟩
    subst hm
    simp only [if_neg g]
    rw [Int.neg_neg, Int.toNat_natCast, show (-(m : Int)).toNat = 0 by omega, Nat.pow_zero, Nat.mul_one, wN m (by omega)]
    exact Ev.bind (shl_ev D m (by omega) (by omega)) (Ev.now _)
theorem nd_shA (N : Nat) (s : Int) (h1 : s ≤ 50000) : nd (shA N s) ≤ nd N + 3126 := by
  have := nd_shl N s.toNat; unfold shA; omega
theorem nd_shB (N : Nat) (s : Int) (h1 : -50000 ≤ s) : nd (shB N s) ≤ nd N + 3126 := by
  have := nd_shl N (-s).toNat; unfold shB; omega
theorem shB_pos {D : Nat} (h : 0 < D) (s : Int) : 0 < shB D s := Nat.mul_pos h (Nat.pow_pos (by omega))
def halfR (N D : Nat) (s : Int) : Bool := decide (shB D s ≤ 2 * (shA N s % shB D s))
def restR (N D : Nat) (s : Int) : Bool := decide (shA N s % shB D s ≠ 0 ∧ 2 * (shA N s % shB D s) ≠ shB D s)
def tinyR (N D : Nat) (x : Int) : Bool := decide (shA N (x + 1022) < shB D (x + 1022))
def finR (neg : Bool) (N D : Nat) (x e mode : Int) : Int × Int :=
  fin neg (((shA N (x - e) / shB D (x - e) : Nat) : Int) + (e + 1074) * 4503599627370496) (halfR N D (x - e)) (restR N D (x - e)) (tinyR N D x) mode
theorem last_ev (neg : Bool) (N D : Nat) (hN : nd N ≤ 10000) (hD : nd D ≤ 10000) (hD0 : 0 < D) (x e mode t : Int) (hx : -40000 ≤ x) (hx' : x ≤ 40000) (he : -1074 ≤ e) (he' : e ≤ 5000)
    (hq : shA N (x - e) / shB D (x - e) < 9007199254740992) (hc : 4503599627370496 ≤ shA N (x - e) / shB D (x - e) ∨ e = -1074) :
    Ev (fun k => vernierref06_Round.j2 k neg (toN N) (toN D) x mode e ((shA N (x - e) / shB D (x - e) : Nat) : Int) (toN (shA N (x - e) % shB D (x - e))) (toN (shB D (x - e))) t false) (finR neg N D x e mode) := by
  have hB := shB_pos hD0 (x - e)
  have nB := nd_shB D (x - e) (by omega)
  have nA := nd_shA N (x - e) (by omega)
  have nA2 := nd_shA N (x + 1022) (by omega)
  have nB2 := nd_shB D (x + 1022) (by omega)
  have S1 := shift_ev N D (by omega) (by omega) (x + 1022) (by omega) (by omega)
  have C1 := cmp_ev (shA N (x + 1022)) (shB D (x + 1022)) (by omega) (by omega)
  have ht : decide (cmpN (shA N (x + 1022)) (shB D (x + 1022)) < 0) = tinyR N D x := by
    unfold tinyR cmpN
    rw [Bool.eq_iff_iff, decide_eq_true_iff, decide_eq_true_iff]; split
    · omega
    · split <;> omega
  unfold finR
  have hH : halfR N D (x - e) = decide (shB D (x - e) ≤ 2 * (shA N (x - e) % shB D (x - e))) := rfl
  have hR : restR N D (x - e) = decide (shA N (x - e) % shB D (x - e) ≠ 0 ∧ 2 * (shA N (x - e) % shB D (x - e)) ≠ shB D (x - e)) := rfl
  generalize halfR N D (x - e) = half at *
  generalize restR N D (x - e) = rest at *
  generalize tinyR N D x = tiny at *
  have hm : shA N (x - e) % shB D (x - e) < shB D (x - e) := Nat.mod_lt _ hB
  have nm : nd (shA N (x - e) % shB D (x - e)) ≤ nd (shA N (x - e)) := nd_mono (Nat.mod_le _ _)
  generalize shA N (x - e) / shB D (x - e) = q at *
  generalize shA N (x - e) % shB D (x - e) = r at *
  generalize shB D (x - e) = B at *
  have S2 := shl_ev r 1 (by omega) (by omega)
  have n2 := nd_shl r 1
  rw [Nat.pow_one, Nat.mul_comm r 2] at S2 n2
  have C2 := cmp_ev (2 * r) B (by omega) (by omega)
  have hin : decide (((toN r).length : Int) > 0) = (half || rest) := by
    have := @toN_nil r
    rw [hH, hR, Bool.eq_iff_iff, Bool.or_eq_true, decide_eq_true_iff, decide_eq_true_iff, decide_eq_true_iff]; omega
  have J := rj3_ev neg mode (q := (q : Int)) (e := e) half rest tiny (by omega) (by omega) he (by omega) (by omega)
  refine Ev.step (f := fun k => vernierref06_Round.j2 (k + 1) neg (toN N) (toN D) x mode e (q : Int) (toN r) (toN B) t false) (fun _ => rfl) ?_
  simp only [vernierref06_Round.j2, if_neg (show ¬ false = true by decide)]
  rw [w64 (x := x + 1022) (by omega) (by omega), hin]
  refine Ev.bind S1 (Ev.bind C1 (Ev.bind S2 (Ev.bind C2 ?_)))
  rw [ht]
  clear S1 C1 S2 C2 ht
  have hin2 : (half || rest) = true ↔ ((toN r).length : Int) > 0 := by rw [← hin, decide_eq_true_iff]
  clear hin
  have c0 : cmpN (2 * r) B ≥ 0 ↔ B ≤ 2 * r := by unfold cmpN; split <;> (try split) <;> omega
  have c1 : cmpN (2 * r) B > 0 ↔ B < 2 * r := by unfold cmpN; split <;> (try split) <;> omega
  have c2 : cmpN (2 * r) B = 0 ↔ B = 2 * r := by unfold cmpN; split <;> (try split) <;> omega
  generalize cmpN (2 * r) B = c at *
  refine Ev.congr (fun k => ?_) J
  clear J
  unfold upP
  by_cases h1 : mode = 1
  · simp only [if_pos h1]
    rw [hH]; congr 1; rw [Bool.eq_iff_iff, decide_eq_true_iff, decide_eq_true_iff]; exact c0
  simp only [if_neg h1]
  by_cases h2 : mode = 2
  · simp only [if_pos h2]
  simp only [if_neg h2]
  by_cases h3 : mode = 3
  · simp only [if_pos h3]
    by_cases g : ((toN r).length : Int) > 0
    · rw [if_pos g, hin2.2 g, Bool.and_true]
    · rw [if_neg g]
      have : (half || rest) = false := by rw [← Bool.not_eq_true]; exact fun h => g (hin2.1 h)
      rw [this, Bool.and_false]
  simp only [if_neg h3]
  by_cases h4 : mode = 4
  · simp only [if_pos h4]
    by_cases g : ((toN r).length : Int) > 0
    · rw [if_pos g, hin2.2 g, Bool.and_true]
    · rw [if_neg g]
      have : (half || rest) = false := by rw [← Bool.not_eq_true]; exact fun h => g (hin2.1 h)
      rw [this, Bool.and_false]
  simp only [if_neg h4]
  have hodd : (Int.tmod (q : Int) 2 == 1) = decide ((q : Int) % 2 = 1) := by
    rw [Int.tmod_eq_emod_of_nonneg (by omega), Bool.eq_iff_iff, beq_iff_eq, decide_eq_true_iff]
  by_cases g1 : c > 0
  · have e1 : half = true := by rw [hH, decide_eq_true_iff]; omega
    have e2 : rest = true := by rw [hR, decide_eq_true_iff]; omega
    rw [if_pos g1, e1, e2]; rfl
  rw [if_neg g1]
  by_cases g2 : c = 0
  · have e1 : half = true := by rw [hH, decide_eq_true_iff]; omega
    have e2 : rest = false := by rw [hR, decide_eq_false_iff_not]; omega
    rw [if_pos g2, e1, e2, hodd]; rfl
  · have e1 : half = false := by rw [hH, decide_eq_false_iff_not]; omega
    rw [if_neg g2, e1]; rfl
def Q (N D : Nat) (s : Int) : Nat := shA N s / shB D s
theorem Q_half (N D : Nat) (s : Int) : Q N D (s - 1) = Q N D s / 2 := by
  unfold Q shA shB
  by_cases g : 1 ≤ s
  · obtain ⟨m, hm⟩ : ∃ m : Nat, s = (m : Int) + 1 := ⟨(s - 1).toNat, by omega⟩
    subst hm
    rw [show ((m : Int) + 1 - 1).toNat = m by omega, show ((m : Int) + 1).toNat = m + 1 by omega, show (-((m : Int) + 1 - 1)).toNat = 0 by omega, show (-((m : Int) + 1)).toNat = 0 by omega, Nat.pow_succ, Nat.pow_zero, Nat.mul_one]
    rw [Nat.div_div_eq_div_mul, ← Nat.mul_assoc, Nat.mul_div_mul_right _ _ (by omega)]
  · obtain ⟨m, hm⟩ : ∃ m : Nat, s = -(m : Int) := ⟨(-s).toNat, by omega⟩
    subst hm
    rw [show (-(m : Int) - 1).toNat = 0 by omega, show (-(m : Int)).toNat = 0 by omega, show (-(-(m : Int) - 1)).toNat = m + 1 by omega, show (-(-(m : Int))).toNat = m by omega, Nat.pow_succ, Nat.div_div_eq_div_mul, Nat.mul_assoc]
theorem Q_down (N D : Nat) (s : Int) (m : Nat) : Q N D (s - m) * 2 ^ m ≤ Q N D s := by
  induction m with
  | zero => rw [Nat.pow_zero, Nat.mul_one, show s - ((0 : Nat) : Int) = s by omega]; exact Nat.le_refl _
  | succ m ih =>
    rw [show s - ((m + 1 : Nat) : Int) = s - (m : Int) - 1 by omega, Q_half, Nat.pow_succ]
    refine Nat.le_trans ?_ ih
    rw [Nat.mul_comm (2 ^ m) 2, ← Nat.mul_assoc]
    exact Nat.mul_le_mul_right _ (by omega)
def canon (N D : Nat) (x e : Int) : Prop := -1074 ≤ e ∧ Q N D (x - e) < 9007199254740992 ∧ (4503599627370496 ≤ Q N D (x - e) ∨ e = -1074)
theorem canon_le {N D : Nat} {x e f : Int} (he : canon N D x e) (hf : canon N D x f) : e ≤ f := by
  by_cases g : e ≤ f
  · exact g
  · have h1 : 4503599627370496 ≤ Q N D (x - e) := by rcases he.2.2 with h | h; exact h; have := hf.1; omega
    have h2 := Q_down N D (x - f) (e - f - 1).toNat
    have h3 := Q_half N D (x - f - ((e - f - 1).toNat : Int))
    rw [show x - f - ((e - f - 1).toNat : Int) - 1 = x - e by omega] at h3
    have h4 := Nat.le_mul_of_pos_right (Q N D (x - f - ((e - f - 1).toNat : Int))) (Nat.pow_pos (n := (e - f - 1).toNat) (show 0 < 2 by omega))
    have := hf.2.1
    omega
theorem canon_eq {N D : Nat} {x e f : Int} (he : canon N D x e) (hf : canon N D x f) : e = f := Int.le_antisymm (canon_le he hf) (canon_le hf he)
theorem sh_lt {N D : Nat} (hD : D ≠ 0) {s : Int} {c d : Nat} (h : (bl N : Int) + s + c ≤ (bl D : Int) - 1 + d) : shA N s * 2 ^ c < shB D s * 2 ^ d := by
  unfold shA shB
  have h1 := lt_bl N
  have h2 := le_bl hD
  have h3 : 1 ≤ bl D := by rw [bl_pos hD]; omega
  rw [Nat.mul_assoc, Nat.mul_assoc, ← Nat.pow_add, ← Nat.pow_add]
  refine Nat.lt_of_lt_of_le ((Nat.mul_lt_mul_right (Nat.pow_pos (by omega))).2 h1) (Nat.le_trans ?_ (Nat.mul_le_mul_right _ h2))
  rw [← Nat.pow_add, ← Nat.pow_add]
  exact Nat.pow_le_pow_right (by omega) (by omega)
theorem sh_ge {N D : Nat} (hN : N ≠ 0) {s : Int} {c : Nat} (h : (bl D : Int) + c ≤ (bl N : Int) - 1 + s) : shB D s * 2 ^ c ≤ shA N s := by
  unfold shA shB
  have h1 := lt_bl D
  have h2 := le_bl hN
  have h3 : 1 ≤ bl N := by rw [bl_pos hN]; omega
  rw [Nat.mul_assoc, ← Nat.pow_add]
  refine Nat.le_trans (Nat.mul_le_mul_right _ (Nat.le_of_lt h1)) (Nat.le_trans ?_ (Nat.mul_le_mul_right _ h2))
  rw [← Nat.pow_add, ← Nat.pow_add]
  exact Nat.pow_le_pow_right (by omega) (by omega)
def eR (N D : Nat) (x : Int) : Int := mx ((bl N : Int) - (bl D : Int) + x - 54) (-1074)
theorem eR_bd (N D : Nat) (x : Int) : (eR N D x = (bl N : Int) - (bl D : Int) + x - 54 ∨ eR N D x = -1074) ∧ (bl N : Int) - (bl D : Int) + x - 54 ≤ eR N D x ∧ -1074 ≤ eR N D x := by unfold eR mx; split <;> omega
theorem Q_start {N D : Nat} (hD : D ≠ 0) (x : Int) : shA N (x - eR N D x) < shB D (x - eR N D x) * 2 ^ 55 := by
  have h := (eR_bd N D x).2.1
  have := sh_lt (N := N) hD (s := x - eR N D x) (c := 0) (d := 55) (by omega)
  rwa [Nat.pow_zero, Nat.mul_one] at this
theorem canon_ex {N D : Nat} (hN : N ≠ 0) (hD : D ≠ 0) (x : Int) : ∃ e, canon N D x e ∧ eR N D x ≤ e ∧ e ≤ eR N D x + 3 := by
  have hb := eR_bd N D x
  have h0 : Q N D (x - eR N D x) < 2 ^ 55 := Nat.div_lt_of_lt_mul (Q_start hD x)
  have h1 : 4503599627370496 ≤ Q N D (x - eR N D x) ∨ eR N D x = -1074 := by
    rcases hb.1 with h | h
    · left
      refine (Nat.le_div_iff_mul_le (shB_pos (by omega) _)).2 ?_
      rw [Nat.mul_comm]
      have := sh_ge (D := D) hN (s := x - eR N D x) (c := 52) (by omega)
      exact this
    · right; exact h
  have q1 := Q_half N D (x - eR N D x)
  have q2 := Q_half N D (x - eR N D x - 1)
  have q3 := Q_half N D (x - eR N D x - 1 - 1)
  rw [show x - eR N D x - 1 = x - (eR N D x + 1) by omega] at q1 q2 q3
  rw [show x - (eR N D x + 1) - 1 = x - (eR N D x + 2) by omega] at q2 q3
  rw [show x - (eR N D x + 2) - 1 = x - (eR N D x + 3) by omega] at q3
  by_cases g0 : Q N D (x - eR N D x) < 9007199254740992
  · exact ⟨_, ⟨hb.2.2, g0, h1⟩, by omega, by omega⟩
  by_cases g1 : Q N D (x - (eR N D x + 1)) < 9007199254740992
  · exact ⟨_, ⟨by omega, g1, Or.inl (by omega)⟩, by omega, by omega⟩
  by_cases g2 : Q N D (x - (eR N D x + 2)) < 9007199254740992
  · exact ⟨_, ⟨by omega, g2, Or.inl (by omega)⟩, by omega, by omega⟩
  · exact ⟨eR N D x + 3, ⟨by omega, by omega, Or.inl (by omega)⟩, by omega, by omega⟩
theorem loop_ev (neg : Bool) (N D : Nat) (hN : nd N ≤ 10000) (hD : nd D ≤ 10000) (hD0 : 0 < D) (x e mode : Int) (hx : -40000 ≤ x) (hx' : x ≤ 40000) (he' : e ≤ 5000) (hc : canon N D x e) :
    ∀ (m : Nat) (f : Int) (t : Nat), f + m = e → -1074 ≤ f → 1 ≤ t → t + m ≤ 9 → shA N (x - f) < shB D (x - f) * 2 ^ 59 →
      Ev (fun k => vernierref06_Round.l0 k neg (toN N) (toN D) x mode f ((Q N D (x - f) : Nat) : Int) (toN (shA N (x - f) % shB D (x - f))) (toN (shB D (x - f))) t) (finR neg N D x e mode) := by
  intro m
  induction m with
  | zero =>
    intro f t hf hf1 ht ht9 _
    obtain rfl : f = e := by omega
    refine Ev.step (fun k => ?_) (last_ev neg N D hN hD hD0 x f mode t hx hx' hf1 he' hc.2.1 hc.2.2)
    simp only [vernierref06_Round.l0]
    have h2 : ¬ ((Q N D (x - f) : Nat) : Int) ≥ 9007199254740992 := by have := hc.2.1; omega
    rw [decide_eq_false h2, if_neg (show ¬ (t : Int) = 0 by omega)]
    by_cases g : (t : Int) < 9
    · rw [if_pos g]; rfl
    · rw [if_neg g]; rfl
  | succ m ih =>
    intro f t hf hf1 ht ht9 hA
    have h1 : 4503599627370496 ≤ Q N D (x - e) := by rcases hc.2.2 with h | h; exact h; omega
    have h2 := Q_down N D (x - f - 1) m
    rw [show x - f - 1 - (m : Int) = x - e by omega, Q_half] at h2
    have h3 := Nat.le_mul_of_pos_right (Q N D (x - e)) (Nat.pow_pos (n := m) (show 0 < 2 by omega))
    have h4 : ((Q N D (x - f) : Nat) : Int) ≥ 9007199254740992 := by omega
    have hA2 : shA N (x - (f + 1)) < shB D (x - (f + 1)) * 2 ^ 59 := by
      have a1 : Q N D (x - f) < 2 ^ 59 := Nat.div_lt_of_lt_mul hA
      have a2 : Q N D (x - (f + 1)) < 2 ^ 59 := by rw [show x - (f + 1) = x - f - 1 by omega, Q_half]; omega
      rw [Nat.mul_comm]
      exact (Nat.div_lt_iff_lt_mul (shB_pos hD0 _)).1 a2
    have nB := nd_shB D (x - (f + 1)) (by omega)
    have nA := nd_shA N (x - (f + 1)) (by omega)
    have S := shift_ev N D (by omega) (by omega) (x - (f + 1)) (by omega) (by omega)
    have F := few_ev (shA N (x - (f + 1))) (shB D (x - (f + 1))) (by omega) (by omega) (Nat.lt_trans hA2 ((Nat.mul_lt_mul_left (shB_pos hD0 _)).2 (by decide)))
    have L := ih (f + 1) (t + 1) (by omega) (by omega) (by omega) (by omega) hA2
    refine Ev.step (f := fun k => vernierref06_Round.j2 k neg (toN N) (toN D) x mode f ((Q N D (x - f) : Nat) : Int) (toN (shA N (x - f) % shB D (x - f))) (toN (shB D (x - f))) t true) (fun k => ?_) ?_
    · simp only [vernierref06_Round.l0]
      rw [if_pos (show (t : Int) < 9 by omega), if_neg (show ¬ (t : Int) = 0 by omega), decide_eq_true h4]
    · refine Ev.step (f := fun k => vernierref06_Round.j2 (k + 1) neg (toN N) (toN D) x mode f ((Q N D (x - f) : Nat) : Int) (toN (shA N (x - f) % shB D (x - f))) (toN (shB D (x - f))) t true) (fun _ => rfl) ?_
      simp only [vernierref06_Round.j2, if_true]
      simp only [if_pos (show (t : Int) > 0 by omega)]
      rw [w64 (x := f + 1) (by omega) (by omega), w64 (x := x - (f + 1)) (by omega) (by omega), wsucc t (by omega)]
      exact Ev.bind S (Ev.bind F L)
theorem begin_ev (neg : Bool) (N D : Nat) (hN : nd N ≤ 10000) (hD : nd D ≤ 10000) (hD0 : 0 < D) (x e mode : Int) (hx : -40000 ≤ x) (hx' : x ≤ 40000) (he' : e ≤ 5000) (hc : canon N D x e)
    (f : Int) (h0 : f ≤ e) (h1 : e ≤ f + 3) (hf1 : -1074 ≤ f) (hA : shA N (x - f) < shB D (x - f) * 2 ^ 59) :
    Ev (fun k => vernierref06_Round.j0 k neg (toN N) (toN D) x mode f) (finR neg N D x e mode) := by
  have L := loop_ev neg N D hN hD hD0 x e mode hx hx' he' hc (e - f).toNat f 1 (by omega) hf1 (by omega) (by omega) hA
  have nB := nd_shB D (x - f) (by omega)
  have nA := nd_shA N (x - f) (by omega)
  have S := shift_ev N D (by omega) (by omega) (x - f) (by omega) (by omega)
  have F := few_ev (shA N (x - f)) (shB D (x - f)) (by omega) (by omega) (Nat.lt_trans hA ((Nat.mul_lt_mul_left (shB_pos hD0 _)).2 (by decide)))
  refine Ev.step (f := fun k => vernierref06_Round.l0 k neg (toN N) (toN D) x mode f 0 ([] : List Int) ([] : List Int) 0) (fun k => by simp only [vernierref06_Round.j0]) ?_
  refine Ev.step (f := fun k => vernierref06_Round.j2 k neg (toN N) (toN D) x mode f 0 ([] : List Int) ([] : List Int) 0 true) (fun k => by simp only [vernierref06_Round.l0]; rw [if_pos (by decide), if_pos trivial]) ?_
  refine Ev.step (f := fun k => vernierref06_Round.j2 (k + 1) neg (toN N) (toN D) x mode f 0 ([] : List Int) ([] : List Int) 0 true) (fun _ => rfl) ?_
  simp only [vernierref06_Round.j2, if_true]
  simp only [if_neg (show ¬ (0 : Int) > 0 by decide)]
  rw [w64 (x := x - f) (by omega) (by omega), show wrap64 (0 + 1) = ((1 : Nat) : Int) by rw [w64 (by omega) (by omega)]; rfl]
  exact Ev.bind S (Ev.bind F L)
theorem bl_nd (a : Nat) : bl a ≤ 16 * nd a := bl_le (by rw [← B16]; exact lt_nd a)
theorem rround_ev (neg : Bool) {N D : Nat} (hN : nd N ≤ 10000) (hD : nd D ≤ 10000) (hN0 : N ≠ 0) (hD0 : D ≠ 0) (x mode : Int) (hx : -40000 ≤ x) (hx' : x ≤ 40000) :
    ∃ e, canon N D x e ∧ Ev (fun k => vernierref06_Round.f k neg (toN N) (toN D) x mode) (finR neg N D x e mode) := by
  have bN := bits_ev N (by omega)
  have bD := bits_ev D (by omega)
  have lN := bl_nd N
  have lD := bl_nd D
  obtain ⟨e, hc, e1, e2⟩ := canon_ex hN0 hD0 x
  have hb := eR_bd N D x
  refine ⟨e, hc, ?_⟩
  unfold vernierref06_Round.f
  refine Ev.bind bN (Ev.bind bD ?_)
  rw [w64 (x := (bl N : Int) - (bl D : Int)) (by omega) (by omega), w64 (x := (bl N : Int) - (bl D : Int) + x) (by omega) (by omega)]
  by_cases g1 : (bl N : Int) - (bl D : Int) + x > 2000
  · simp only [if_pos g1]
    have hq : 4503599627370496 ≤ Q N D (x - e) := by rcases hc.2.2 with h | h; exact h; omega
    have : finR neg N D x e mode = (sgn neg + (if farP neg mode then 9218868437227405312 else 9218868437227405311), 20) := by
      unfold finR fin res
      rw [if_pos]
      have : (0 : Int) ≤ (if upP neg (((shA N (x - e) / shB D (x - e) : Nat) : Int) + (e + 1074) * 4503599627370496) (halfR N D (x - e)) (restR N D (x - e)) mode then 1 else 0) := by split <;> omega
      unfold Q at hq
      omega
    rw [this]
    exact Ev.bind (big_ev neg mode) (Ev.now _)
  simp only [if_neg g1]
  by_cases g2 : (bl N : Int) - (bl D : Int) + x < -3000
  · simp only [if_pos g2]
    have h0 : eR N D x = -1074 := by rcases hb.1 with h | h <;> omega
    have A2 := sh_lt (N := N) hD0 (s := x - -1074) (c := 1) (d := 0) (by omega)
    rw [Nat.pow_zero, Nat.mul_one, Nat.pow_one] at A2
    have hc2 : canon N D x (-1074) := ⟨by omega, by unfold Q; rw [Nat.div_eq_of_lt (by omega)]; omega, Or.inr rfl⟩
    have he := canon_eq hc hc2
    subst he
    have A1 : 0 < shA N (x - -1074) := Nat.mul_pos (by omega) (Nat.pow_pos (by omega))
    have T := sh_lt (N := N) hD0 (s := x + 1022) (c := 0) (d := 0) (by omega)
    rw [Nat.pow_zero, Nat.mul_one, Nat.mul_one] at T
    have b1 : bl 1 = 1 := by rw [bl_pos (by omega), show 1 / 2 = 0 from rfl, bl_zero]
    have B2 := sh_lt (N := 1) (D := 1) (by omega) (s := -3000 - -1074) (c := 1) (d := 0) (by rw [b1]; omega)
    rw [Nat.pow_zero, Nat.mul_one, Nat.pow_one] at B2
    have B1 : 0 < shA 1 (-3000 - -1074) := Nat.mul_pos (by omega) (Nat.pow_pos (by omega))
    have U := sh_lt (N := 1) (D := 1) (by omega) (s := -3000 + 1022) (c := 0) (d := 0) (by rw [b1]; omega)
    rw [Nat.pow_zero, Nat.mul_one, Nat.mul_one] at U
    have hc3 : canon 1 1 (-3000) (-1074) := ⟨by omega, by unfold Q; rw [Nat.div_eq_of_lt (by omega)]; omega, Or.inr rfl⟩
    have J := begin_ev neg 1 1 (by rw [nd_pos (by omega), show 1 / 65536 = 0 from rfl, nd_zero]; omega) (by rw [nd_pos (by omega), show 1 / 65536 = 0 from rfl, nd_zero]; omega) (by omega) (-3000) (-1074) mode (by omega) (by omega) (by omega) hc3 (-1074) (by omega) (by omega) (by omega) (by omega)
    rw [toN_one] at J
    have key : finR neg N D x (-1074) mode = finR neg 1 1 (-3000) (-1074) mode := by
      unfold finR
      have q1 : shA N (x - -1074) / shB D (x - -1074) = 0 := Nat.div_eq_of_lt (by omega)
      have q2 : shA 1 (-3000 - -1074) / shB 1 (-3000 - -1074) = 0 := Nat.div_eq_of_lt (by omega)
      have m1 : shA N (x - -1074) % shB D (x - -1074) = shA N (x - -1074) := Nat.mod_eq_of_lt (by omega)
      have m2 : shA 1 (-3000 - -1074) % shB 1 (-3000 - -1074) = shA 1 (-3000 - -1074) := Nat.mod_eq_of_lt (by omega)
      have z1 : halfR N D (x - -1074) = halfR 1 1 (-3000 - -1074) := by
        unfold halfR; rw [m1, m2, decide_eq_false (by omega), decide_eq_false (by omega)]
      have z2 : restR N D (x - -1074) = restR 1 1 (-3000 - -1074) := by
        unfold restR; rw [m1, m2, decide_eq_true (by omega), decide_eq_true (by omega)]
      have z3 : tinyR N D x = tinyR 1 1 (-3000) := by
        unfold tinyR; rw [decide_eq_true T, decide_eq_true U]
      rw [q1, q2, z1, z2, z3]
    rw [key]; exact J
  · simp only [if_neg g2]
    rw [w64 (x := (bl N : Int) - (bl D : Int) + x - 54) (by omega) (by omega)]
    exact begin_ev neg N D hN hD (by omega) x e mode hx hx' (by omega) hc (eR N D x) e1 e2 hb.2.2 (Nat.lt_trans (Q_start hD0 x) ((Nat.mul_lt_mul_left (shB_pos (by omega) _)).2 (by decide)))
-- parts.Round and vernierref06.Round tell the same.
theorem nd_one : nd 1 = 1 := by rw [nd_pos (by omega), show 1 / 65536 = 0 from rfl, nd_zero]
theorem bl_one : bl 1 = 1 := by rw [bl_pos (by omega), show 1 / 2 = 0 from rfl, bl_zero]
theorem cutP_R (W : Nat) (d : Int) : cutP W d = (Q W 1 (-d), halfR W 1 (-d), restR W 1 (-d)) := by
  unfold cutP Q halfR restR shA shB
  by_cases g : d ≤ 0
  · rw [if_pos g, show (-(-d)).toNat = 0 by omega, Nat.pow_zero, Nat.mul_one, Nat.div_one, Nat.mod_one]
    rw [decide_eq_false (by omega), decide_eq_false (by omega)]
  · obtain ⟨m, hm⟩ : ∃ m : Nat, d = (m : Int) + 1 := ⟨(d - 1).toNat, by omega⟩
    subst hm
    rw [if_neg g, show ((m : Int) + 1).toNat = m + 1 by omega, show (-((m : Int) + 1)).toNat = 0 by omega, show (-(-((m : Int) + 1))).toNat = m + 1 by omega, Nat.pow_zero, Nat.mul_one, Nat.one_mul, Nat.add_sub_cancel]
    have h1 : W % 2 ^ (m + 1) = W % 2 ^ m + 2 ^ m * (W / 2 ^ m % 2) := by rw [Nat.pow_succ, Nat.mod_mul]
    have h2 : W % 2 ^ m < 2 ^ m := Nat.mod_lt _ (Nat.pow_pos (by omega))
    have h3 : W / 2 ^ m % 2 = 0 ∨ W / 2 ^ m % 2 = 1 := by omega
    have h4 : (2 : Nat) ^ (m + 1) = 2 * 2 ^ m := by rw [Nat.pow_succ, Nat.mul_comm]
    rw [h1]
    generalize W / 2 ^ (m + 1) = q
    rw [h4]
    generalize W / 2 ^ m % 2 = b at *
    generalize W % 2 ^ m = w at *
    generalize 2 ^ m = M at *
    clear h1 h4 g
    rcases h3 with h | h
    · subst h
      rw [Nat.mul_zero, Nat.add_zero]
      congr 2
      · rw [Bool.eq_iff_iff, decide_eq_true_iff, decide_eq_true_iff]; omega
      · rw [Bool.eq_iff_iff, decide_eq_true_iff, decide_eq_true_iff]; omega
    · subst h
      rw [Nat.mul_one]
      congr 2
      · rw [Bool.eq_iff_iff, decide_eq_true_iff, decide_eq_true_iff]; omega
      · rw [Bool.eq_iff_iff, decide_eq_true_iff, decide_eq_true_iff]; omega
theorem canon_parts {W : Nat} (hW : W ≠ 0) (x : Int) : canon W 1 x (eP (bl W) x) := by
  have h := cutP_bd hW x
  rw [cutP_R, show -(eP (bl W) x - x) = x - eP (bl W) x by omega] at h
  exact ⟨(eP_ge _ _).2, h.1, h.2⟩
theorem tiny_parts {W : Nat} (hW : W ≠ 0) (x : Int) : tinyR W 1 x = decide (x + bl W < -1021) := by
  unfold tinyR
  by_cases g : x + bl W < -1021
  · have := sh_lt (N := W) (D := 1) (by omega) (s := x + 1022) (c := 0) (d := 0) (by rw [bl_one]; omega)
    rw [Nat.pow_zero, Nat.mul_one, Nat.mul_one] at this
    rw [decide_eq_true this, decide_eq_true g]
  · rw [decide_eq_false g, decide_eq_false]
    have h2 := le_bl hW
    have h3 : 1 ≤ bl W := by rw [bl_pos hW]; omega
    unfold shA shB
    rw [Nat.one_mul]
    refine Nat.not_lt.2 (Nat.le_trans ?_ (Nat.mul_le_mul_right _ h2))
    rw [← Nat.pow_add]
    exact Nat.pow_le_pow_right (by omega) (by omega)
theorem finR_parts (neg : Bool) {W : Nat} (hW : W ≠ 0) (x mode : Int) : finR neg W 1 x (eP (bl W) x) mode =
    fin neg (((cutP W (eP (bl W) x - x)).1 : Int) + (eP (bl W) x + 1074) * 4503599627370496) (cutP W (eP (bl W) x - x)).2.1 (cutP W (eP (bl W) x - x)).2.2 (decide (x + bl W < -1021)) mode := by
  rw [cutP_R, show -(eP (bl W) x - x) = x - eP (bl W) x by omega, ← tiny_parts hW]; rfl
theorem roundP_eq (neg : Bool) {W : Nat} (hW : W ≠ 0) (x0 : Int) (more : Bool) (mode : Int) : roundP neg W x0 more mode =
    fin neg (((cutP W (eP (bl W) (clampP x0) - clampP x0)).1 : Int) + (eP (bl W) (clampP x0) + 1074) * 4503599627370496) (cutP W (eP (bl W) (clampP x0) - clampP x0)).2.1
      ((cutP W (eP (bl W) (clampP x0) - clampP x0)).2.2 || (more && (decide (55 ≤ bl W) || decide (clampP x0 ≤ -1080)))) (decide (clampP x0 + bl W < -1021)) mode := by
  unfold roundP
  rw [if_neg hW]
theorem roundP_plain (neg : Bool) {W : Nat} (hW : W ≠ 0) (x0 mode : Int) (more : Bool) (hm : (more && (decide (55 ≤ bl W) || decide (clampP x0 ≤ -1080))) = false) :
    roundP neg W x0 more mode = finR neg W 1 (clampP x0) (eP (bl W) (clampP x0)) mode := by
  rw [roundP_eq neg hW, finR_parts neg hW, hm, Bool.or_false]
theorem roundP_more (neg : Bool) {W : Nat} (hW : W ≠ 0) (x0 mode : Int) (h : 55 ≤ bl W ∨ clampP x0 ≤ -1080) :
    roundP neg W x0 true mode = finR neg (2 * W + 1) 1 (clampP x0 - 1) (eP (bl (2 * W + 1)) (clampP x0 - 1)) mode := by
  have hb : bl (2 * W + 1) = bl W + 1 := by rw [bl_pos (by omega), show (2 * W + 1) / 2 = W by omega]
  have he : eP (bl (2 * W + 1)) (clampP x0 - 1) = eP (bl W) (clampP x0) := by rw [hb]; unfold eP; congr 1; omega
  have hm : (true && (decide (55 ≤ bl W) || decide (clampP x0 ≤ -1080))) = true := by
    rw [Bool.true_and, Bool.or_eq_true, decide_eq_true_iff, decide_eq_true_iff]; exact h
  have ht : decide (clampP x0 - 1 + ((bl W + 1 : Nat) : Int) < -1021) = decide (clampP x0 + bl W < -1021) := by
    rw [Bool.eq_iff_iff, decide_eq_true_iff, decide_eq_true_iff]; omega
  rw [roundP_eq neg hW, finR_parts neg (by omega), he, hb, ht, hm, Bool.or_true]
  have hg := eP_ge (bl W) (clampP x0)
  have hd : 1 ≤ eP (bl W) (clampP x0) - clampP x0 := by omega
  have e1 : eP (bl W) (clampP x0) - (clampP x0 - 1) = eP (bl W) (clampP x0) - clampP x0 + 1 := by omega
  show fin neg (((cutP W (eP (bl W) (clampP x0) - clampP x0)).1 : Int) + (eP (bl W) (clampP x0) + 1074) * 4503599627370496) (cutP W (eP (bl W) (clampP x0) - clampP x0)).2.1 true _ mode = _
  rw [e1]
  generalize eP (bl W) (clampP x0) - clampP x0 = d at *
  obtain ⟨m, hm⟩ : ∃ m : Nat, d = (m : Int) + 1 := ⟨(d - 1).toNat, by omega⟩
  subst hm
  unfold cutP
  rw [if_neg (by omega), if_neg (by omega), show ((m : Int) + 1).toNat = m + 1 by omega, show ((m : Int) + 1 + 1).toNat = m + 1 + 1 by omega, Nat.add_sub_cancel, Nat.add_sub_cancel]
  have a1 : (2 * W + 1) / 2 ^ (m + 1 + 1) = W / 2 ^ (m + 1) := by
    rw [Nat.pow_succ', ← Nat.div_div_eq_div_mul, show (2 * W + 1) / 2 = W by omega]
  have a2 : (2 * W + 1) / 2 ^ (m + 1) = W / 2 ^ m := by
    rw [Nat.pow_succ', ← Nat.div_div_eq_div_mul, show (2 * W + 1) / 2 = W by omega]
  have a3 : (2 * W + 1) % 2 ^ (m + 1) ≠ 0 := by
    rw [Nat.pow_succ', Nat.mod_mul]; omega
  rw [a1, a2, decide_eq_true a3]
theorem nd_wide {W : Nat} (h : W < 2 ^ 130) : nd W ≤ 9 := nd_lt (Nat.lt_of_lt_of_le h (by decide))
theorem ref_parts (neg : Bool) {W : Nat} (hW : W ≠ 0) (hlt : W < 2 ^ 130) (x mode : Int) (hx : -40000 ≤ x) (hx' : x ≤ 40000) :
    Ev (fun k => vernierref06_Round.f k neg (toN W) [1] x mode) (finR neg W 1 x (eP (bl W) x) mode) := by
  have hn := nd_wide hlt
  obtain ⟨e, hc, h⟩ := rround_ev neg (N := W) (D := 1) (by omega) (by rw [nd_one]; omega) hW (by omega) x mode hx hx'
  rw [canon_eq hc (canon_parts hW x), toN_one] at h
  exact h
theorem word_ev {m : Nat} (hm : m < 18446744073709551616) : Ev (fun k => vernierref01_Word.f k m) (toN m) := by
  refine Ev.bind (of_ev _ m (show 1 ≤ 100 by omega) ?_ ?_) (Ev.now _)
  · intro i hi
    have hi2 : i < 1 := hi
    obtain rfl : i = 0 := by omega
    exact ⟨m, rfl, hm, by rw [Nat.mul_zero, Nat.pow_zero, Nat.div_one]; omega⟩
  · show m < 65536 ^ (4 * 1)
    rw [show 65536 ^ (4 * 1) = 18446744073709551616 by decide]; exact hm
theorem clamp_in {x : Int} (h0 : -16384 ≤ x) (h1 : x ≤ 16384) : clampP x = x := by unfold clampP mn mx; split <;> split <;> omega
/-- What a binary64 number's parts come to, rounded: itself. -/
theorem round_exact (neg : Bool) {q : Nat} {e : Int} (h1 : q < 9007199254740992) (h2 : -1074 ≤ e) (h3 : e ≤ 971) (hc : 4503599627370496 ≤ q ∨ e = -1074) :
    roundP neg q e false 0 = (sgn neg + ((q : Int) + (e + 1074) * 4503599627370496), 0) ∨ (q = 0 ∧ roundP neg q e false 0 = (sgn neg, 0)) := by
  by_cases h0 : q = 0
  · right; refine ⟨h0, ?_⟩; subst h0; unfold roundP; rw [if_pos rfl]
  left
  have hb : bl q ≤ 53 := bl_le (show q < 2 ^ 53 from h1)
  have he : eP (bl q) e = e := by
    rcases hc with h | h
    · have := bl_gt (n := 52) (a := q) h
      have := eP_bd (bl q) e
      have := eP_ge (bl q) e
      omega
    · have := eP_bd (bl q) e
      have := eP_ge (bl q) e
      omega
  rw [roundP_eq neg h0, clamp_in (by omega) (by omega), he, show e - e = 0 by omega]
  have hcut : cutP q 0 = (q, false, false) := by unfold cutP; rw [if_pos (by omega)]; simp
  rw [hcut, Bool.false_and]
  show fin neg ((q : Int) + (e + 1074) * 4503599627370496) false false _ 0 = _
  have hu : upP neg ((q : Int) + (e + 1074) * 4503599627370496) false false 0 = false := by
    unfold upP; rw [if_neg (by decide), if_neg (by decide), if_neg (by decide), if_neg (by decide), Bool.false_and]
  unfold fin res
  rw [hu, if_neg (show ¬ false = true by decide), Int.add_zero, if_neg (by omega), if_neg (by decide)]
theorem parts_of {a : Int} (h0 : 0 ≤ a) (h1 : a < 18446744073709551616) (hE : E a ≠ 2047) :
    a = sgn (neg a) + (sg a + (ex a + 1074) * 4503599627370496) ∧ 0 ≤ sg a ∧ sg a < 9007199254740992 ∧ -1074 ≤ ex a ∧ ex a ≤ 971 ∧ (4503599627370496 ≤ sg a ∨ ex a = -1074) := by
  have hs : sgn (neg a) = a / 9223372036854775808 * 9223372036854775808 := by
    unfold neg sgn
    by_cases g : a ≥ 9223372036854775808
    · rw [decide_eq_true g, if_pos rfl]; omega
    · rw [decide_eq_false g, if_neg (by decide)]; omega
  rw [hs]
  unfold sg ex
  unfold E F at *
  split <;> omega
theorem of_parts (neg0 : Bool) {q e : Int} (h0 : 0 ≤ q) (h1 : q < 9007199254740992) (h2 : -1074 ≤ e) (hc : 4503599627370496 ≤ q ∨ e = -1074) (hi : q + (e + 1074) * 4503599627370496 < 9218868437227405312) :
    sg (sgn neg0 + (q + (e + 1074) * 4503599627370496)) = q ∧ ex (sgn neg0 + (q + (e + 1074) * 4503599627370496)) = e := by
  have hs : sgn neg0 = 0 ∨ sgn neg0 = 9223372036854775808 := by cases neg0 <;> simp [sgn]
  generalize sgn neg0 = s at *
  unfold sg ex E F
  constructor <;> split <;> omega
theorem lz64 {a : Nat} (h : a < 18446744073709551616) : bits_LeadingZeros64.f (a : Int) = some ((64 - bl a : Nat) : Int) := by
  have := bl64 h
  unfold bits_LeadingZeros64.f
  rw [len64 h]
  simp only [Option.bind_some]
  rw [w64 (by omega) (by omega)]; congr 1; omega
-- A quotient with more behind it, rounded: the same as the exact one.
def halfP (a b : Nat) : Bool := decide (b ≤ 2 * (a % b))
def restP (a b : Nat) : Bool := decide (a % b ≠ 0 ∧ 2 * (a % b) ≠ b)
theorem pair2 (a b : Nat) : 2 * a / (2 * b) = a / b ∧ halfP (2 * a) (2 * b) = halfP a b ∧ restP (2 * a) (2 * b) = restP a b ∧ decide (2 * a < 2 * b) = decide (a < b) := by
  unfold halfP restP
  rw [Nat.mul_mod_mul_left, Nat.mul_div_mul_left _ _ (by omega)]
  generalize a % b = r
  refine ⟨rfl, ?_, ?_, ?_⟩ <;> rw [Bool.eq_iff_iff, decide_eq_true_iff, decide_eq_true_iff] <;> omega
theorem sh_up (N D : Nat) (s : Int) : (shA (2 * N) (s - 1) = shA N s ∧ shB D (s - 1) = shB D s) ∨ (shA (2 * N) (s - 1) = 2 * shA N s ∧ shB D (s - 1) = 2 * shB D s) := by
  unfold shA shB
  by_cases g : 1 ≤ s
  · left
    obtain ⟨m, hm⟩ : ∃ m : Nat, s = (m : Int) + 1 := ⟨(s - 1).toNat, by omega⟩
    subst hm
    rw [show ((m : Int) + 1 - 1).toNat = m by omega, show ((m : Int) + 1).toNat = m + 1 by omega, show (-((m : Int) + 1 - 1)).toNat = 0 by omega, show (-((m : Int) + 1)).toNat = 0 by omega, Nat.pow_succ]
    exact ⟨by rw [Nat.mul_comm 2 N, Nat.mul_assoc, Nat.mul_comm 2], rfl⟩
  · right
    obtain ⟨m, hm⟩ : ∃ m : Nat, s = -(m : Int) := ⟨(-s).toNat, by omega⟩
    subst hm
    rw [show (-(m : Int) - 1).toNat = 0 by omega, show (-(m : Int)).toNat = 0 by omega, show (-(-(m : Int) - 1)).toNat = m + 1 by omega, show (-(-(m : Int))).toNat = m by omega, Nat.pow_succ]
    exact ⟨by rw [Nat.pow_zero, Nat.mul_one, Nat.mul_one], by rw [← Nat.mul_assoc, Nat.mul_comm]⟩
theorem sh_dn (N D : Nat) (s : Int) : (shA N (s + 1) = shA N s ∧ shB (2 * D) (s + 1) = shB D s) ∨ (shA N (s + 1) = 2 * shA N s ∧ shB (2 * D) (s + 1) = 2 * shB D s) := by
  unfold shA shB
  by_cases g : 0 ≤ s
  · right
    obtain ⟨m, hm⟩ : ∃ m : Nat, s = (m : Int) := ⟨s.toNat, by omega⟩
    subst hm
    rw [show ((m : Int) + 1).toNat = m + 1 by omega, show (m : Int).toNat = m by omega, show (-((m : Int) + 1)).toNat = 0 by omega, show (-(m : Int)).toNat = 0 by omega, Nat.pow_succ]
    exact ⟨by rw [← Nat.mul_assoc, Nat.mul_comm], by rw [Nat.pow_zero, Nat.mul_one, Nat.mul_one]⟩
  · left
    obtain ⟨m, hm⟩ : ∃ m : Nat, s = -((m : Int) + 1) := ⟨(-s - 1).toNat, by omega⟩
    subst hm
    rw [show (-((m : Int) + 1) + 1).toNat = 0 by omega, show (-((m : Int) + 1)).toNat = 0 by omega, show (-(-((m : Int) + 1) + 1)).toNat = m by omega, show (-(-((m : Int) + 1))).toNat = m + 1 by omega, Nat.pow_succ]
    exact ⟨rfl, by rw [Nat.mul_comm 2 D, Nat.mul_assoc, Nat.mul_comm 2]⟩
theorem same_pairs {N D N' D' : Nat} {x x' : Int} (h : ∀ z : Int, (shA N' (x' - z) = shA N (x - z) ∧ shB D' (x' - z) = shB D (x - z)) ∨ (shA N' (x' - z) = 2 * shA N (x - z) ∧ shB D' (x' - z) = 2 * shB D (x - z))) :
    (∀ neg e mode, finR neg N' D' x' e mode = finR neg N D x e mode) ∧ (∀ e, canon N' D' x' e ↔ canon N D x e) := by
  have key : ∀ z : Int, shA N' (x' - z) / shB D' (x' - z) = shA N (x - z) / shB D (x - z) ∧ halfR N' D' (x' - z) = halfR N D (x - z) ∧ restR N' D' (x' - z) = restR N D (x - z) ∧ decide (shA N' (x' - z) < shB D' (x' - z)) = decide (shA N (x - z) < shB D (x - z)) := fun z => by
    have hh : ∀ N D s, halfR N D s = halfP (shA N s) (shB D s) := fun _ _ _ => rfl
    have hr : ∀ N D s, restR N D s = restP (shA N s) (shB D s) := fun _ _ _ => rfl
    rw [hh, hh, hr, hr]
    rcases h z with ⟨h1, h2⟩ | ⟨h1, h2⟩
    · rw [h1, h2]; exact ⟨rfl, rfl, rfl, rfl⟩
    · rw [h1, h2]; exact pair2 _ _
  constructor
  · intro neg e mode
    obtain ⟨k1, k2, k3, _⟩ := key e
    have k4 := (key (-1022)).2.2.2
    unfold finR tinyR
    rw [show x' + 1022 = x' - -1022 by omega, show x + 1022 = x - -1022 by omega, k1, k2, k3, k4]
  · intro e
    unfold canon Q
    rw [(key e).1]
theorem up_same (N D : Nat) (x : Int) (n : Nat) : (∀ neg e mode, finR neg (N * 2 ^ n) D (x - n) e mode = finR neg N D x e mode) ∧ (∀ e, canon (N * 2 ^ n) D (x - n) e ↔ canon N D x e) := by
  induction n with
  | zero => rw [Nat.pow_zero, Nat.mul_one, show x - ((0 : Nat) : Int) = x by omega]; exact ⟨fun _ _ _ => rfl, fun _ => Iff.rfl⟩
  | succ n ih =>
    have := same_pairs (N := N * 2 ^ n) (D := D) (N' := N * 2 ^ (n + 1)) (D' := D) (x := x - n) (x' := x - ((n + 1 : Nat) : Int)) (fun z => by
      rw [show x - ((n + 1 : Nat) : Int) - z = x - n - z - 1 by omega, show N * 2 ^ (n + 1) = 2 * (N * 2 ^ n) by rw [Nat.pow_succ, ← Nat.mul_assoc, Nat.mul_comm]]
      exact sh_up _ _ _)
    exact ⟨fun a b c => (this.1 a b c).trans (ih.1 a b c), fun a => (this.2 a).trans (ih.2 a)⟩
theorem dn_same (N D : Nat) (x : Int) (n : Nat) : (∀ neg e mode, finR neg N (D * 2 ^ n) (x + n) e mode = finR neg N D x e mode) ∧ (∀ e, canon N (D * 2 ^ n) (x + n) e ↔ canon N D x e) := by
  induction n with
  | zero => rw [Nat.pow_zero, Nat.mul_one, show x + ((0 : Nat) : Int) = x by omega]; exact ⟨fun _ _ _ => rfl, fun _ => Iff.rfl⟩
  | succ n ih =>
    have := same_pairs (N := N) (D := D * 2 ^ n) (N' := N) (D' := D * 2 ^ (n + 1)) (x := x + n) (x' := x + ((n + 1 : Nat) : Int)) (fun z => by
      rw [show x + ((n + 1 : Nat) : Int) - z = x + n - z + 1 by omega, show D * 2 ^ (n + 1) = 2 * (D * 2 ^ n) by rw [Nat.pow_succ, ← Nat.mul_assoc, Nat.mul_comm]]
      exact sh_dn _ _ _)
    exact ⟨fun a b c => (this.1 a b c).trans (ih.1 a b c), fun a => (this.2 a).trans (ih.2 a)⟩
theorem tiny_quo {A B : Nat} (hB : 0 < B) (h0 : A / B ≠ 0) (X : Int) : tinyR A B X = decide (X + bl (A / B) < -1021) := by
  have h1 := lt_bl (A / B)
  have h2 := le_bl h0
  have h3 : 1 ≤ bl (A / B) := by rw [bl_pos h0]; exact Nat.le_add_left 1 _
  generalize bl (A / B) = n at *
  have hlo : B * 2 ^ (n - 1) ≤ A := by
    rw [Nat.mul_comm]; exact (Nat.le_div_iff_mul_le hB).1 h2
  have hhi : A < B * 2 ^ n := by
    rw [Nat.mul_comm]; exact (Nat.div_lt_iff_lt_mul hB).1 h1
  unfold tinyR shA shB
  by_cases g : X + n < -1021
  · rw [decide_eq_true g, decide_eq_true]
    rw [show (X + 1022).toNat = 0 by omega, Nat.pow_zero, Nat.mul_one]
    exact Nat.lt_of_lt_of_le hhi (Nat.mul_le_mul_left _ (Nat.pow_le_pow_right (by omega) (by omega)))
  · rw [decide_eq_false g, decide_eq_false]
    refine Nat.not_lt.2 (Nat.le_trans (Nat.mul_le_mul_left _ (Nat.pow_le_pow_right (show 2 > 0 by omega) (show (-(X + 1022)).toNat ≤ n - 1 by omega))) (Nat.le_trans hlo ?_))
    exact Nat.le_mul_of_pos_right _ (Nat.pow_pos (by omega))
theorem sticky (neg : Bool) {A B : Nat} (hB : 0 < B) (X mode : Int) (hb : 55 ≤ bl (A / B)) (hX : clampP X = X) :
    canon A B X (eP (bl (A / B)) X) ∧ roundP neg (A / B) X (decide (A % B ≠ 0)) mode = finR neg A B X (eP (bl (A / B)) X) mode := by
  have h0 : A / B ≠ 0 := fun h => by rw [h, bl_zero] at hb; omega
  have hc := cutP_bd h0 X
  have hg := eP_ge (bl (A / B)) X
  have ht := tiny_quo hB h0 X
  have hr := Nat.mod_lt A hB
  rw [roundP_eq neg h0, hX]
  have hm : (decide (A % B ≠ 0) && (decide (55 ≤ bl (A / B)) || decide (X ≤ -1080))) = decide (A % B ≠ 0) := by
    rw [decide_eq_true hb, Bool.true_or, Bool.and_true]
  rw [hm]
  unfold finR
  rw [ht]
  generalize decide (X + ↑(bl (A / B)) < -1021) = tiny at *
  generalize eP (bl (A / B)) X = e at *
  obtain ⟨m, hd⟩ : ∃ m : Nat, e - X = (m : Int) + 1 := ⟨(e - X - 1).toNat, by omega⟩
  have hcut : cutP (A / B) (e - X) = (A / B / 2 ^ (m + 1), decide (A / B / 2 ^ m % 2 = 1), decide (A / B % 2 ^ m ≠ 0)) := by
    unfold cutP
    rw [if_neg (by omega), hd, show ((m : Int) + 1).toNat = m + 1 by omega, Nat.add_sub_cancel]
  have hA : shA A (X - e) = A := by unfold shA; rw [show (X - e).toNat = 0 by omega, Nat.pow_zero, Nat.mul_one]
  have hBs : shB B (X - e) = B * 2 ^ (m + 1) := by unfold shB; rw [show (-(X - e)).toNat = m + 1 by omega]
  have hq : A / (B * 2 ^ (m + 1)) = A / B / 2 ^ (m + 1) := (Nat.div_div_eq_div_mul _ _ _).symm
  have hmod : A % (B * 2 ^ (m + 1)) = A % B + (B * (A / B % 2 ^ m) + B * 2 ^ m * (A / B / 2 ^ m % 2)) := by rw [Nat.mod_mul, Nat.pow_succ, Nat.mod_mul (x := A / B), Nat.mul_add, ← Nat.mul_assoc B]
  rw [hcut] at hc ⊢
  constructor
  · refine ⟨hg.2, ?_, ?_⟩
    · unfold Q; rw [hA, hBs, hq]; exact hc.1
    · unfold Q; rw [hA, hBs, hq]; exact hc.2
  · have hw : A / B % 2 ^ m < 2 ^ m := Nat.mod_lt _ (Nat.pow_pos (by omega))
    have hb2 : A / B / 2 ^ m % 2 = 0 ∨ A / B / 2 ^ m % 2 = 1 := by omega
    have hlt : A % B + B * (A / B % 2 ^ m) < B * 2 ^ m := by
      have := Nat.mul_le_mul_left B (show A / B % 2 ^ m + 1 ≤ 2 ^ m from hw)
      rw [Nat.mul_add, Nat.mul_one] at this; omega
    have hz : B * (A / B % 2 ^ m) = 0 ↔ A / B % 2 ^ m = 0 := by rw [Nat.mul_eq_zero]; omega
    have h2 : B * 2 ^ (m + 1) = 2 * (B * 2 ^ m) := by rw [Nat.pow_succ, ← Nat.mul_assoc, Nat.mul_comm]
    have hh : halfR A B (X - e) = decide (A / B / 2 ^ m % 2 = 1) := by
      unfold halfR
      rw [hA, hBs, hmod, h2]
      generalize A / B / 2 ^ m % 2 = b at *
      generalize B * (A / B % 2 ^ m) = bw at *
      generalize B * 2 ^ m = M at *
      generalize A % B = p at *
      rw [Bool.eq_iff_iff, decide_eq_true_iff, decide_eq_true_iff]
      rcases hb2 with h | h <;> subst h <;> omega
    have hrr : restR A B (X - e) = (decide (A / B % 2 ^ m ≠ 0) || decide (A % B ≠ 0)) := by
      unfold restR
      rw [hA, hBs, hmod, h2]
      generalize A / B / 2 ^ m % 2 = b at *
      generalize B * (A / B % 2 ^ m) = bw at *
      generalize A / B % 2 ^ m = w at *
      generalize B * 2 ^ m = M at *
      generalize A % B = p at *
      rw [Bool.eq_iff_iff, Bool.or_eq_true, decide_eq_true_iff, decide_eq_true_iff, decide_eq_true_iff]
      rcases hb2 with h | h <;> subst h <;> omega
    rw [hh, hrr, hA, hBs, hq]
theorem norm_bd {m : Nat} (h0 : m ≠ 0) (h1 : m < 9007199254740992) : bl m ≤ 53 ∧ 1 ≤ bl m ∧ m * 2 ^ (64 - bl m) < 18446744073709551616 ∧ 9223372036854775808 ≤ m * 2 ^ (64 - bl m) := by
  have a := lt_bl m
  have b := le_bl h0
  have c : bl m ≤ 53 := bl_le (show m < 2 ^ 53 from h1)
  have d : 1 ≤ bl m := by rw [bl_pos h0]; exact Nat.le_add_left 1 _
  generalize bl m = n at *
  have hp : 0 < 2 ^ (64 - n) := Nat.pow_pos (by omega)
  refine ⟨c, d, ?_, ?_⟩
  · have := (Nat.mul_lt_mul_right hp).2 a
    rwa [← Nat.pow_add, show n + (64 - n) = 64 by omega] at this
  · have := Nat.mul_le_mul_right (2 ^ (64 - n)) b
    rwa [← Nat.pow_add, show n - 1 + (64 - n) = 63 by omega] at this
theorem xor_neg {a b : Int} (a0 : 0 ≤ a) (a1 : a < 18446744073709551616) (b0 : 0 ≤ b) (b1 : b < 18446744073709551616) :
    ((Go.bits .and .u64 (Go.bits .xor .u64 a b) 9223372036854775808) != 0) = (decide (a ≥ 9223372036854775808) != decide (b ≥ 9223372036854775808)) := by
  obtain ⟨x, rfl⟩ := Int.eq_ofNat_of_zero_le a0
  obtain ⟨y, rfl⟩ := Int.eq_ofNat_of_zero_le b0
  rw [u64_xor_nat x y (by omega) (by omega)]
  have h1 : x ^^^ y < 2 ^ 64 := Nat.xor_lt_two_pow (by omega) (by omega)
  have h2 : (x ^^^ y) / 2 ^ 63 = (x / 2 ^ 63) ^^^ (y / 2 ^ 63) := Nat.xor_div_two_pow
  rw [negb (by omega) (by omega)]
  unfold neg
  have hx : x / 2 ^ 63 = 0 ∨ x / 2 ^ 63 = 1 := by omega
  have hy : y / 2 ^ 63 = 0 ∨ y / 2 ^ 63 = 1 := by omega
  generalize x ^^^ y = z at *
  rcases hx with hx | hx <;> rcases hy with hy | hy <;> rw [hx, hy] at h2 <;> rw [Bool.eq_iff_iff] <;> simp at h2 ⊢ <;> omega
theorem cls_all (a : Int) : cls a = 0 ∨ cls a = 1 ∨ cls a = 2 ∨ cls a = 3 := by unfold cls; split <;> split <;> simp
theorem cls_one {a : Int} (h : cls a = 1) : E a ≠ 2047 ∧ ∃ m : Nat, sg a = (m : Int) ∧ m ≠ 0 := by
  have hf := F_bd a
  unfold cls at h
  by_cases g : E a = 2047
  · rw [if_pos g] at h; split at h <;> omega
  · rw [if_neg g] at h
    refine ⟨g, (sg a).toNat, ?_, ?_⟩
    · unfold sg; split <;> omega
    · unfold sg
      by_cases g2 : E a = 0
      · rw [if_pos g2]
        have : F a ≠ 0 := fun e => by rw [if_pos ⟨g2, e⟩] at h; omega
        omega
      · rw [if_neg g2]; omega
theorem round_any (neg : Bool) {q : Nat} {e : Int} (_h0 : q ≠ 0) (h1 : q < 9007199254740992) (h2 : -1074 ≤ e) (h3 : e ≤ 971) (hc : 4503599627370496 ≤ q ∨ e = -1074) (mode : Int) :
    canon q 1 e e ∧ finR neg q 1 e e mode = (sgn neg + ((q : Int) + (e + 1074) * 4503599627370496), 0) := by
  have hA : shA q (e - e) = q := by unfold shA; rw [show (e - e).toNat = 0 by omega, Nat.pow_zero, Nat.mul_one]
  have hB : shB 1 (e - e) = 1 := by unfold shB; rw [show (-(e - e)).toNat = 0 by omega]
  refine ⟨⟨h2, by unfold Q; rw [hA, hB, Nat.div_one]; exact h1, by unfold Q; rw [hA, hB, Nat.div_one]; exact hc⟩, ?_⟩
  have hh : halfR q 1 (e - e) = false := by unfold halfR; rw [hA, hB, Nat.mod_one]; rfl
  have hs : restR q 1 (e - e) = false := by unfold restR; rw [hA, hB, Nat.mod_one]; rfl
  unfold finR
  rw [hA, hB, Nat.div_one, hh, hs]
  have hu : ∀ q : Int, upP neg q false false mode = false := fun q => by unfold upP; repeat' split
                                                                         all_goals simp
  unfold fin res
  rw [hu, if_neg (show ¬ false = true by decide), if_neg (by omega), Bool.or_self, if_neg (show ¬ false = true by decide), Int.add_zero]
-- The whole part of a square root, bit by bit.
def rt (n : Nat) : Nat → Nat → Nat
  | 0, q => q
  | i + 1, q => if (q + 2 ^ i) * (q + 2 ^ i) ≤ n then rt n i (q + 2 ^ i) else rt n i q
theorem rt_spec (n : Nat) : ∀ (i q : Nat), q * q ≤ n → n < (q + 2 ^ i) * (q + 2 ^ i) → rt n i q * rt n i q ≤ n ∧ n < (rt n i q + 1) * (rt n i q + 1)
  | 0, q, h0, h1 => ⟨h0, h1⟩
  | i + 1, q, h0, h1 => by
    unfold rt
    by_cases g : (q + 2 ^ i) * (q + 2 ^ i) ≤ n
    · rw [if_pos g]
      exact rt_spec n i _ g (by rwa [Nat.add_assoc, ← Nat.two_mul, ← Nat.pow_succ'])
    · rw [if_neg g]
      exact rt_spec n i _ h0 (by omega)
def isq (n : Nat) (q : Nat) : Prop := q * q ≤ n ∧ n < (q + 1) * (q + 1)
theorem isq_le {n a b : Nat} (ha : a * a ≤ n) (hb : n < (b + 1) * (b + 1)) : a ≤ b := by
  apply Nat.le_of_not_lt
  intro h
  have := Nat.mul_le_mul (show b + 1 ≤ a from h) (show b + 1 ≤ a from h)
  omega
theorem isq_eq {n a b : Nat} (ha : isq n a) (hb : isq n b) : a = b := Nat.le_antisymm (isq_le ha.1 hb.2) (isq_le hb.1 ha.2)
theorem rt_isq {n i : Nat} (h : n < 2 ^ i * 2 ^ i) : isq n (rt n i 0) := rt_spec n i 0 (by omega) (by rwa [Nat.zero_add])
theorem sq_mul (a b : Nat) : a * b * (a * b) = a * a * (b * b) := Nat.mul_mul_mul_comm a b a b
theorem isq_self (a : Nat) : isq (a * a) a := ⟨Nat.le_refl _, Nat.mul_lt_mul'' (Nat.lt_succ_self a) (Nat.lt_succ_self a)⟩
/-- The root of 4^d times as much. -/
theorem isq_scale {n q r d : Nat} (hq : isq n q) (hr : isq (n * (2 ^ d * 2 ^ d)) r) : r / 2 ^ d = q ∧ (q * q = n ↔ r % 2 ^ d = 0 ∧ r * r = n * (2 ^ d * 2 ^ d)) := by
  have hp : 0 < 2 ^ d := Nat.pow_pos (by omega)
  generalize 2 ^ d = P at *
  have hpp : 0 < P * P := Nat.mul_pos hp hp
  have e : r / P = q := by
    refine isq_eq ⟨?_, ?_⟩ hq
    · have h1 : r / P * P ≤ r := Nat.div_mul_le_self r P
      have h2 := Nat.le_trans (Nat.mul_le_mul h1 h1) hr.1
      rw [sq_mul] at h2
      exact Nat.le_of_mul_le_mul_right h2 hpp
    · have h1 : r + 1 ≤ (r / P + 1) * P := by
        have := Nat.lt_div_mul_add hp (a := r)
        rw [Nat.add_mul, Nat.one_mul]; omega
      have h2 := Nat.lt_of_lt_of_le hr.2 (Nat.mul_le_mul h1 h1)
      rw [sq_mul] at h2
      exact Nat.lt_of_mul_lt_mul_right h2
  refine ⟨e, fun h => ?_, fun ⟨h1, h2⟩ => ?_⟩
  · have : isq (n * (P * P)) (q * P) := by
      rw [← h, ← sq_mul]; exact isq_self _
    have h3 := isq_eq hr this
    rw [h3]
    exact ⟨Nat.mul_mod_left _ _, by rw [sq_mul, h]⟩
  · have h3 : r = q * P := by rw [← e]; exact (Nat.div_mul_cancel (Nat.dvd_of_mod_eq_zero h1)).symm
    rw [h3, sq_mul] at h2
    exact Nat.eq_of_mul_eq_mul_right hpp h2
-- A root with something left behind it, rounded.
def more (n q : Nat) : Nat := if q * q = n then 0 else 1
theorem more_le (n q : Nat) : more n q ≤ 1 := by unfold more; split <;> omega
theorem more_one (n q : Nat) : more n q = 1 ↔ q * q ≠ n := by unfold more; split <;> simp_all
theorem root_far {W q c c2 d : Nat} (hc : c ≤ 1) (hq : q / 2 ^ d = W) (h2 : c2 = 1 ↔ ¬ (q % 2 ^ d = 0 ∧ c = 0)) (X mode : Int) (hb : 55 ≤ bl W) (hX : clampP X = X) :
    canon (2 * q + c) 1 (X - d - 1) (eP (bl W) X) ∧ roundP false W X (decide (c2 = 1)) mode = finR false (2 * q + c) 1 (X - d - 1) (eP (bl W) X) mode := by
  have hp : 0 < 2 ^ d := Nat.pow_pos (by omega)
  have e1 : 2 ^ (d + 1) = 2 * 2 ^ d := by rw [Nat.pow_succ, Nat.mul_comm]
  have e2 : (2 * q + c) / 2 = q := by omega
  have e3 : (2 * q + c) % 2 = c := by omega
  have hd : (2 * q + c) / 2 ^ (d + 1) = W := by rw [e1, ← Nat.div_div_eq_div_mul, e2, hq]
  have hm : (2 * q + c) % 2 ^ (d + 1) = c + 2 * (q % 2 ^ d) := by rw [e1, Nat.mod_mul, e2, e3]
  have S := sticky false (A := 2 * q + c) (B := 2 ^ (d + 1)) (Nat.pow_pos (by omega)) X mode (by rw [hd]; exact hb) hX
  have V := dn_same (2 * q + c) 1 (X - d - 1) (d + 1)
  rw [Nat.one_mul, show X - (d : Int) - 1 + ((d + 1 : Nat) : Int) = X by omega] at V
  rw [hd] at S
  refine ⟨(V.2 _).1 S.1, ?_⟩
  rw [← V.1, ← S.2, hm]
  congr 1
  rw [Bool.eq_iff_iff, decide_eq_true_iff, decide_eq_true_iff, h2]
  omega
theorem root_round {W c : Nat} (hc : c ≤ 1) (X mode : Int) (hb : 55 ≤ bl W) (hX : clampP X = X) :
    canon (2 * W + c) 1 (X - 1) (eP (bl W) X) ∧ roundP false W X (decide (c = 1)) mode = finR false (2 * W + c) 1 (X - 1) (eP (bl W) X) mode := by
  have := root_far (W := W) (q := W) (c := c) (c2 := c) (d := 0) hc (by rw [Nat.pow_zero, Nat.div_one]) (by rw [Nat.pow_zero, Nat.mod_one]; omega) X mode hb hX
  rwa [show X - ((0 : Nat) : Int) - 1 = X - 1 by omega] at this
theorem roots_same {m j1 j2 q1 q2 : Nat} {x X1 X2 e f mode : Int} (h1 : isq (m * 2 ^ j1) q1) (h2 : isq (m * 2 ^ j2) q2) (e1 : x - j1 = 2 * X1) (e2 : x - j2 = 2 * X2) (hle : j2 ≤ j1) (hb : 55 ≤ bl q2) (hX : clampP X2 = X2)
    (c1 : canon (2 * q1 + more (m * 2 ^ j1) q1) 1 (X1 - 1) e) (c2 : canon (2 * q2 + more (m * 2 ^ j2) q2) 1 (X2 - 1) f) :
    finR false (2 * q1 + more (m * 2 ^ j1) q1) 1 (X1 - 1) e mode = finR false (2 * q2 + more (m * 2 ^ j2) q2) 1 (X2 - 1) f mode := by
  obtain ⟨d, hd⟩ : ∃ d : Nat, j1 = j2 + (d + d) := ⟨(j1 - j2) / 2, by omega⟩
  obtain rfl : X1 = X2 - d := by omega
  have hn : m * 2 ^ j1 = m * 2 ^ j2 * (2 ^ d * 2 ^ d) := by rw [hd, Nat.pow_add, Nat.pow_add, Nat.mul_assoc]
  rw [hn] at h1 c1 ⊢
  obtain ⟨s1, s2⟩ := isq_scale h2 h1
  have F := root_far (W := q2) (q := q1) (c := more (m * 2 ^ j2 * (2 ^ d * 2 ^ d)) q1) (c2 := more (m * 2 ^ j2) q2) (d := d) (more_le _ _) s1 (by
    rw [more_one, Ne, s2]
    have := more_one (m * 2 ^ j2 * (2 ^ d * 2 ^ d)) q1
    have := more_le (m * 2 ^ j2 * (2 ^ d * 2 ^ d)) q1
    have h : more (m * 2 ^ j2 * (2 ^ d * 2 ^ d)) q1 = 0 ↔ q1 * q1 = m * 2 ^ j2 * (2 ^ d * 2 ^ d) := by
      constructor
      · intro h0; by_cases g : q1 * q1 = m * 2 ^ j2 * (2 ^ d * 2 ^ d)
        · exact g
        · have := (more_one _ _).2 g; omega
      · intro h0; unfold more; rw [if_pos h0]
    rw [h]) X2 mode hb hX
  have G := root_round (W := q2) (c := more (m * 2 ^ j2) q2) (more_le _ _) X2 mode hb hX
  rw [canon_eq c1 F.1, ← F.2, canon_eq c2 G.1, ← G.2]
theorem big_root {n q k : Nat} (h : isq n q) (hk : 2 ^ k * 2 ^ k ≤ n) : k < bl q := bl_gt (isq_le hk h.2)
-- Rounded parts, and what they are next to.
theorem floor_le {N D m : Nat} {x e f : Int} (hc : canon N D x e) (hm : m < 9007199254740992) (hcm : 4503599627370496 ≤ m ∨ f = -1074) (hV : shA N (x - f) ≤ m * shB D (x - f)) (_hD : 0 < D) (hf : -1074 ≤ f) :
    ((Q N D (x - e) : Nat) : Int) + (e + 1074) * 4503599627370496 ≤ (m : Int) + (f + 1074) * 4503599627370496 := by
  obtain ⟨h1, h2, h3⟩ := hc
  have hq : Q N D (x - f) ≤ m := Nat.div_le_of_le_mul (by rw [Nat.mul_comm]; exact hV)
  by_cases g : e ≤ f
  · by_cases g2 : e = f
    · subst g2; omega
    · omega
  · exfalso
    have h4 := Q_down N D (x - f) (e - f - 1 + 1).toNat
    rw [show x - f - (((e - f - 1 + 1).toNat : Nat) : Int) = x - e by omega] at h4
    obtain ⟨k, hk⟩ : ∃ k, (e - f - 1 + 1).toNat = k + 1 := ⟨(e - f - 1).toNat, by omega⟩
    rw [hk, Nat.pow_succ] at h4
    have h5 : 1 ≤ 2 ^ k := Nat.pow_pos (by omega)
    have h6 : 4503599627370496 ≤ Q N D (x - e) := by rcases h3 with h | h <;> omega
    have h7 := Nat.mul_le_mul h6 (Nat.mul_le_mul_right 2 h5)
    omega
theorem floor_ge {N D m : Nat} {x e f : Int} (hc : canon N D x e) (hm : m < 9007199254740992) (hcm : 4503599627370496 ≤ m ∨ f = -1074) (hV : m * shB D (x - f) ≤ shA N (x - f)) (hD : 0 < D) (_hf : -1074 ≤ f) :
    (m : Int) + (f + 1074) * 4503599627370496 ≤ ((Q N D (x - e) : Nat) : Int) + (e + 1074) * 4503599627370496 := by
  obtain ⟨h1, h2, h3⟩ := hc
  have hq : m ≤ Q N D (x - f) := (Nat.le_div_iff_mul_le (shB_pos hD _)).2 hV
  by_cases g : f ≤ e
  · by_cases g2 : e = f
    · subst g2; omega
    · omega
  · exfalso
    have h4 := Q_down N D (x - e) (f - e - 1 + 1).toNat
    rw [show x - e - (((f - e - 1 + 1).toNat : Nat) : Int) = x - f by omega] at h4
    obtain ⟨k, hk⟩ : ∃ k, (f - e - 1 + 1).toNat = k + 1 := ⟨(f - e - 1).toNat, by omega⟩
    rw [hk, Nat.pow_succ] at h4
    have h5 : 1 ≤ 2 ^ k := Nat.pow_pos (by omega)
    have h7 := Nat.mul_le_mul (show 4503599627370496 ≤ Q N D (x - f) by omega) (Nat.mul_le_mul_right 2 h5)
    omega
/-- An exact one: no flags at all. -/
theorem no_flags {N D : Nat} {x e mode : Int} {neg0 : Bool} (hD : 0 < D) (h : (finR neg0 N D x e mode).2 = 0) :
    shA N (x - e) = Q N D (x - e) * shB D (x - e) ∧ ((Q N D (x - e) : Nat) : Int) + (e + 1074) * 4503599627370496 < 9218868437227405312 ∧
      finR neg0 N D x e mode = (sgn neg0 + (((Q N D (x - e) : Nat) : Int) + (e + 1074) * 4503599627370496), 0) := by
  have hu : ∀ q : Int, upP neg0 q false false mode = false := fun q => by unfold upP; repeat' split
                                                                          all_goals simp
  have hb := shB_pos hD (x - e)
  have hdm := Nat.div_add_mod (shA N (x - e)) (shB D (x - e))
  have key : ∀ (hf rs tn : Bool) (C : Int), (fin neg0 C hf rs tn mode).2 = 0 → hf = false ∧ rs = false ∧ C < 9218868437227405312 ∧ fin neg0 C hf rs tn mode = (sgn neg0 + C, 0) := by
    intro hf rs tn C h
    have e1 : hf = false ∧ rs = false := by
      unfold fin res at h
      generalize C + (if upP neg0 C hf rs mode = true then (1 : Int) else 0) = c at h
      by_cases g : 9218868437227405312 ≤ c
      · rw [if_pos g] at h; exact absurd (show (20 : Int) = 0 from h) (by decide)
      · rw [if_neg g] at h
        cases hf <;> cases rs <;> cases tn <;> first | exact ⟨rfl, rfl⟩ | exact absurd (show (24 : Int) = 0 from h) (by decide) | exact absurd (show (16 : Int) = 0 from h) (by decide)
    obtain ⟨rfl, rfl⟩ := e1
    unfold fin res at h ⊢
    rw [hu, if_neg (show ¬ false = true by decide), Int.add_zero] at h ⊢
    by_cases g : 9218868437227405312 ≤ C
    · rw [if_pos g] at h; exact absurd (show (20 : Int) = 0 from h) (by decide)
    · rw [if_neg g]; exact ⟨rfl, rfl, by omega, rfl⟩
  unfold finR at h ⊢
  obtain ⟨k1, k2, k3, k4⟩ := key _ _ _ _ h
  refine ⟨?_, k3, k4⟩
  have z : shA N (x - e) % shB D (x - e) = 0 := by
    unfold halfR at k1
    unfold restR at k2
    rw [decide_eq_false_iff_not] at k1 k2
    apply Classical.byContradiction
    intro g
    apply k2
    exact ⟨g, by omega⟩
  unfold Q
  rw [z, Nat.add_zero] at hdm
  rw [Nat.mul_comm]; exact hdm.symm
/-- The root of an exact square. -/
theorem square_root {m Q0 q j : Nat} {x e X : Int} (hx : shA (m * m) (2 * x - e) = Q0 * shB 1 (2 * x - e)) (hm : m < 9007199254740992) (hj : e - j = 2 * X) (hq : isq (Q0 * 2 ^ j) q) (hn : 85070591730234615865843651857942052864 ≤ Q0 * 2 ^ j) :
    ∃ k : Nat, X = x - k ∧ q = m * 2 ^ k ∧ more (Q0 * 2 ^ j) q = 0 := by
  have key : X ≤ x ∧ Q0 * 2 ^ j = m * m * (2 ^ (x - X).toNat * 2 ^ (x - X).toNat) := by
    unfold shA shB at hx
    rw [Nat.one_mul] at hx
    by_cases g : 0 ≤ 2 * x - e
    · rw [show (-(2 * x - e)).toNat = 0 by omega, Nat.pow_zero, Nat.mul_one] at hx
      refine ⟨by omega, ?_⟩
      rw [← hx, Nat.mul_assoc, ← Nat.pow_add, ← Nat.pow_add]
      congr 2; omega
    · rw [show (2 * x - e).toNat = 0 by omega, Nat.pow_zero, Nat.mul_one] at hx
      by_cases g2 : X ≤ x
      · refine ⟨g2, ?_⟩
        rw [hx, Nat.mul_assoc, ← Nat.pow_add, ← Nat.pow_add]
        congr 2; omega
      · exfalso
        have h1 : Q0 * 2 ^ j * 2 ^ ((-(2 * x - e)).toNat - j) = m * m := by
          rw [hx, Nat.mul_assoc, ← Nat.pow_add]; congr 2; omega
        have h2 : m * m < 9007199254740992 * 9007199254740992 := Nat.mul_lt_mul'' hm hm
        have h3 : 1 ≤ 2 ^ ((-(2 * x - e)).toNat - j) := Nat.pow_pos (by omega)
        have h4 := Nat.mul_le_mul hn h3
        omega
  obtain ⟨h1, h2⟩ := key
  have h3 : isq (Q0 * 2 ^ j) (m * 2 ^ (x - X).toNat) := by rw [h2, ← sq_mul]; exact isq_self _
  have h4 := isq_eq hq h3
  refine ⟨(x - X).toNat, by omega, h4, ?_⟩
  unfold more
  rw [h4, sq_mul, h2, if_pos rfl]
/-- A root of 64 bits, rounded down: its significand is all but the last eleven bits. -/
theorem root_down {n q : Nat} {X e : Int} (hq : bl q = 64) (hX : -1000 ≤ X) (hX' : X ≤ 500) (_hi : isq n q) (hc : canon (2 * q + more n q) 1 (X - 1) e) :
    e = X + 11 ∧ 4503599627370496 ≤ q / 2048 ∧ q / 2048 < 9007199254740992 ∧ (finR false (2 * q + more n q) 1 (X - 1) e 4).1 = ((q / 2048 : Nat) : Int) + (X + 1085) * 4503599627370496 ∧
      ((finR false (2 * q + more n q) 1 (X - 1) e 3).1 = ((q / 2048 : Nat) : Int) + (X + 1085) * 4503599627370496 ∧ q / 2048 * 2048 = q ∧ q * q = n ∨ (finR false (2 * q + more n q) 1 (X - 1) e 3).1 = ((q / 2048 : Nat) : Int) + (X + 1085) * 4503599627370496 + 1) := by
  have hlo : 2 ^ 63 ≤ q := by have := le_bl (a := q) (by intro h; rw [h, bl_zero] at hq; omega); rw [hq] at this; exact this
  have hhi : q < 2 ^ 64 := by have := lt_bl q; rw [hq] at this; exact this
  have hml := more_le n q
  have hmo := more_one n q
  generalize hA : 2 * q + more n q = A at *
  have sA : shA A (X - 1 - (X + 11)) = A := by unfold shA; rw [show (X - 1 - (X + 11)).toNat = 0 by omega, Nat.pow_zero, Nat.mul_one]
  have sB : shB 1 (X - 1 - (X + 11)) = 4096 := by unfold shB; rw [show (-(X - 1 - (X + 11))).toNat = 12 by omega]
  have hQ : A / 4096 = q / 2048 := by omega
  have hce : e = X + 11 := canon_eq hc ⟨by omega, by unfold Q; rw [sA, sB]; omega, Or.inl (by unfold Q; rw [sA, sB]; omega)⟩
  subst hce
  refine ⟨rfl, by omega, by omega, ?_, ?_⟩
  · unfold finR fin res
    rw [sA, sB, hQ]
    have hu : ∀ (q : Int) (a b : Bool), upP false q a b 4 = false := fun q a b => rfl
    rw [hu, if_neg (show ¬ false = true by decide), Int.add_zero, if_neg (by omega)]
    show sgn false + _ = _
    rw [show sgn false = 0 from rfl]; omega
  · have hu : ∀ (q : Int) (a b : Bool), upP false q a b 3 = (a || b) := fun q a b => rfl
    have hi2 : (halfR A 1 (X - 1 - (X + 11)) || restR A 1 (X - 1 - (X + 11))) = decide (A % 4096 ≠ 0) := by
      unfold halfR restR
      rw [sA, sB, Bool.eq_iff_iff, Bool.or_eq_true, decide_eq_true_iff, decide_eq_true_iff, decide_eq_true_iff]; omega
    unfold finR fin res
    rw [hu, hi2, sA, sB, hQ]
    by_cases g : A % 4096 = 0
    · left
      rw [decide_eq_false (by omega), if_neg (show ¬ false = true by decide), Int.add_zero, if_neg (by omega)]
      refine ⟨?_, by omega, ?_⟩
      · show sgn false + _ = _
        rw [show sgn false = 0 from rfl]; omega
      · apply Classical.byContradiction
        intro h
        have := hmo.2 h
        omega
    · right
      rw [decide_eq_true g, if_pos rfl, if_neg (by omega)]
      show sgn false + _ = _
      rw [show sgn false = 0 from rfl]; omega
theorem down_le {N m : Nat} {x e f : Int} (hc : canon N 1 x e) (hm : m < 9007199254740992) (hcm : 4503599627370496 ≤ m ∨ f = -1074) (hV : shA N (x - f) ≤ m * shB 1 (x - f)) (hf : -1074 ≤ f) (hi : (m : Int) + (f + 1074) * 4503599627370496 < 9218868437227405312) :
    (finR false N 1 x e 4).1 ≤ (m : Int) + (f + 1074) * 4503599627370496 := by
  have h := floor_le hc hm hcm hV (by omega) hf
  have hu : ∀ (q : Int) (a b : Bool), upP false q a b 4 = false := fun q a b => rfl
  unfold finR fin res
  unfold Q at h
  rw [hu, if_neg (show ¬ false = true by decide), Int.add_zero, if_neg (by omega)]
  show sgn false + _ ≤ _
  rw [show sgn false = 0 from rfl]; omega
theorem up_ge {N m : Nat} {x e f : Int} (hc : canon N 1 x e) (hm : m < 9007199254740992) (hcm : 4503599627370496 ≤ m ∨ f = -1074) (hV : m * shB 1 (x - f) ≤ shA N (x - f)) (hf : -1074 ≤ f) (hi : (m : Int) + (f + 1074) * 4503599627370496 < 9218868437227405312) :
    (m : Int) + (f + 1074) * 4503599627370496 ≤ (finR false N 1 x e 3).1 := by
  have h := floor_ge hc hm hcm hV (by omega) hf
  unfold finR fin
  unfold Q at h
  have hp : ∀ b : Bool, (0 : Int) ≤ (if b = true then 1 else 0) := fun b => by cases b <;> decide
  have hp2 := hp (upP false (((shA N (x - e) / shB 1 (x - e) : Nat) : Int) + (e + 1074) * 4503599627370496) (halfR N 1 (x - e)) (restR N 1 (x - e)) 3)
  generalize (if upP false (((shA N (x - e) / shB 1 (x - e) : Nat) : Int) + (e + 1074) * 4503599627370496) (halfR N 1 (x - e)) (restR N 1 (x - e)) 3 = true then (1 : Int) else 0) = u at *
  unfold res
  by_cases g : 9218868437227405312 ≤ ((shA N (x - e) / shB 1 (x - e) : Nat) : Int) + (e + 1074) * 4503599627370496 + u
  · rw [if_pos g]
    show _ ≤ sgn false + (if farP false 3 then (9218868437227405312 : Int) else 9218868437227405311)
    rw [show sgn false = 0 from rfl, show farP false 3 = true from rfl, if_pos rfl]; omega
  · rw [if_neg g]
    show _ ≤ sgn false + _
    rw [show sgn false = 0 from rfl]; omega
theorem near_low {n m j q : Nat} (hn : n = m * 2 ^ j) (hj : 24 ≤ j) (hi : isq n q) : q / 2048 * (q / 2048) ≤ m * 2 ^ (j - 22) := by
  have e : m * 2 ^ j = m * 2 ^ (j - 22) * (2048 * 2048) := by
    rw [show (2048 * 2048 : Nat) = 2 ^ 22 from rfl, Nat.mul_assoc, ← Nat.pow_add]; congr 2; omega
  have h1 : q / 2048 * 2048 ≤ q := Nat.div_mul_le_self _ _
  have h2 := Nat.le_trans (Nat.mul_le_mul h1 h1) hi.1
  rw [sq_mul, hn, e] at h2
  exact Nat.le_of_mul_le_mul_right h2 (by omega)
theorem near_exact {n m j q : Nat} (hn : n = m * 2 ^ j) (hj : 24 ≤ j) (h0 : q / 2048 * 2048 = q) (hi : q * q = n) : m * 2 ^ (j - 22) ≤ q / 2048 * (q / 2048) := by
  have e : m * 2 ^ j = m * 2 ^ (j - 22) * (2048 * 2048) := by
    rw [show (2048 * 2048 : Nat) = 2 ^ 22 from rfl, Nat.mul_assoc, ← Nat.pow_add]; congr 2; omega
  have h2 : q / 2048 * 2048 * (q / 2048 * 2048) = n := by rw [h0, hi]
  rw [sq_mul, hn, e] at h2
  exact Nat.le_of_eq (Nat.eq_of_mul_eq_mul_right (by omega) h2).symm
theorem near_high {n m j q : Nat} (hn : n = m * 2 ^ j) (hj : 24 ≤ j) (hi : isq n q) : m * 2 ^ (j - 22) ≤ (q / 2048 + 1) * (q / 2048 + 1) := by
  have e : m * 2 ^ j = m * 2 ^ (j - 22) * (2048 * 2048) := by
    rw [show (2048 * 2048 : Nat) = 2 ^ 22 from rfl, Nat.mul_assoc, ← Nat.pow_add]; congr 2; omega
  have h1 : q + 1 ≤ (q / 2048 + 1) * 2048 := by omega
  have h2 := Nat.le_of_lt (Nat.lt_of_lt_of_le hi.2 (Nat.mul_le_mul h1 h1))
  rw [sq_mul, hn, e] at h2
  exact Nat.le_of_mul_le_mul_right h2 (by omega)
theorem near_top {n m j q : Nat} (hn : n = m * 2 ^ j) (hj : 24 ≤ j) (hi : isq n q) (ht : q / 2048 + 1 = 9007199254740992) : m * 2 ^ (j - 24) ≤ 4503599627370496 * 4503599627370496 := by
  have h := near_high hn hj hi
  rw [ht] at h
  have e : m * 2 ^ (j - 22) = m * 2 ^ (j - 24) * 4 := by
    rw [show (4 : Nat) = 2 ^ 2 from rfl, Nat.mul_assoc, ← Nat.pow_add]; congr 2; omega
  rw [e] at h
  omega
-- fsqrt's root of two words, and its square root of a finite number that is above 0.
theorem and1_i64 (x : Int) : Go.bits .and .i64 x 1 = x % 2 := by
  have h2 : (BitVec.ofInt 64 x &&& BitVec.ofInt 64 1).toNat = (x % 18446744073709551616).toNat % 2 := by
    rw [BitVec.toNat_and, BitVec.toNat_ofInt, show (BitVec.ofInt 64 1).toNat = 1 from rfl, nat_mask1]; rfl
  show IntKind.i64.wrap (((BitVec.ofInt 64 x &&& BitVec.ofInt 64 1).toNat : Nat) : Int) = x % 2
  rw [h2, IntKind.wrap_i64]
  omega
theorem below_eq {hi lo s n : Nat} (hn : hi * 18446744073709551616 + lo = n) (hl : lo < 18446744073709551616) :
    fsqrt_below.f (hi : Int) (lo : Int) ((s : Int) / 18446744073709551616) ((s : Int) % 18446744073709551616) = some (decide (n < s)) := by
  unfold fsqrt_below.f
  by_cases g : (hi : Int) < (s : Int) / 18446744073709551616
  · rw [if_pos g, decide_eq_true (by omega)]
  rw [if_neg g]
  by_cases g2 : (hi : Int) = (s : Int) / 18446744073709551616
  · rw [if_pos g2]; congr 1; rw [Bool.eq_iff_iff, decide_eq_true_iff, decide_eq_true_iff]; omega
  · rw [if_neg g2, decide_eq_false (by omega)]
theorem mul64_eq {q : Nat} (hq : q < 18446744073709551616) : bits_Mul64.f (q : Int) (q : Int) = some (((q * q : Nat) : Int) / 18446744073709551616, ((q * q : Nat) : Int) % 18446744073709551616) := by
  unfold bits_Mul64.f
  rw [if_pos (by omega), Int.natCast_mul]
theorem root_l {hi lo n : Nat} (hn : hi * 18446744073709551616 + lo = n) (hl : lo < 18446744073709551616) : ∀ i q : Nat, i ≤ 64 → q % 2 ^ i = 0 → q + 2 ^ i ≤ 18446744073709551616 →
    Ev (fun k => fsqrt_root.l0 k hi lo q ((2 ^ i / 2 : Nat) : Int)) ((rt n i q : Int), decide (rt n i q * rt n i q ≠ n)) := by
  intro i
  induction i with
  | zero =>
    intro q _ _ h1
    refine Ev.no (fun k => ?_)
    rw [Nat.pow_zero] at h1
    simp only [fsqrt_root.l0]
    rw [if_neg (by decide), mul64_eq (by omega)]
    simp only [Option.bind_some]
    show _ = some ((q : Int), decide (q * q ≠ n))
    generalize q * q = s
    by_cases g : (s : Int) / 18446744073709551616 = (hi : Int)
    · rw [if_pos g]; congr 2; rw [Bool.eq_iff_iff, bne_iff_ne, decide_eq_true_iff]; omega
    · rw [if_neg g]; congr 2; symm; rw [decide_eq_true_iff]; omega
  | succ i ih =>
    intro q hi1 h0 h1
    have e1 : 2 ^ (i + 1) = 2 * 2 ^ i := by rw [Nat.pow_succ, Nat.mul_comm]
    have hp : 0 < 2 ^ i := Nat.pow_pos (by omega)
    have hb : 2 ^ (i + 1) / 2 = 2 ^ i := by omega
    have hz := Nat.div_add_mod q (2 ^ (i + 1))
    rw [h0] at hz
    have d1 : q % 2 ^ i = 0 := by rw [← hz, Nat.add_zero, e1, Nat.mul_comm 2, Nat.mul_assoc]; exact Nat.mul_mod_right _ _
    have d2 : (q + 2 ^ i) % 2 ^ i = 0 := by rw [Nat.add_mod_right]; exact d1
    have hor : Go.bits .or .u64 (q : Int) ((2 ^ i : Nat) : Int) = ((q + 2 ^ i : Nat) : Int) := by
      have c1 : ((2 ^ i : Nat) : Int) < (2 : Int) ^ (i + 1) := by
        have : ((2 ^ (i + 1) : Nat) : Int) = (2 : Int) ^ (i + 1) := Int.natCast_pow 2 (i + 1)
        rw [← this]; omega
      have c2 : (q : Int) % (2 : Int) ^ (i + 1) = 0 := by
        have : ((2 ^ (i + 1) : Nat) : Int) = (2 : Int) ^ (i + 1) := Int.natCast_pow 2 (i + 1)
        rw [← this, ← Int.natCast_emod, h0]; rfl
      rw [(or64_join (i + 1) ((2 ^ i : Nat) : Int) (q : Int) (by omega) c1 (by omega) c2 (by omega) (by omega)).2, Int.natCast_add]
    rw [hb]
    refine Ev.step (f := fun k => if n < (q + 2 ^ i) * (q + 2 ^ i) then fsqrt_root.l0 k hi lo q ((2 ^ i / 2 : Nat) : Int) else fsqrt_root.l0 k hi lo ((q + 2 ^ i : Nat) : Int) ((2 ^ i / 2 : Nat) : Int)) (fun k => ?_) ?_
    · simp only [fsqrt_root.l0]
      rw [if_pos (by omega), hor, mul64_eq (by omega)]
      simp only [Option.bind_some]
      rw [below_eq hn hl]
      simp only [Option.bind_some, decide_eq_true_iff]
      rw [show ((2 ^ i : Nat) : Int) / 2 = ((2 ^ i / 2 : Nat) : Int) by omega]
    · unfold rt
      by_cases g : n < (q + 2 ^ i) * (q + 2 ^ i)
      · simp only [if_pos g]
        rw [if_neg (by omega)]
        exact ih q (by omega) d1 (by omega)
      · simp only [if_neg g]
        rw [if_pos (by omega)]
        exact ih (q + 2 ^ i) (by omega) d2 (by omega)
theorem root_ev {hi lo n : Nat} (hn : hi * 18446744073709551616 + lo = n) (hl : lo < 18446744073709551616) (hh : hi < 18446744073709551616) :
    ∃ q : Nat, isq n q ∧ Ev (fun k => fsqrt_root.f k hi lo) ((q : Int), decide (more n q = 1)) := by
  have h := root_l hn hl 64 0 (by omega) (by decide) (by decide)
  have e : decide (rt n 64 0 * rt n 64 0 ≠ n) = decide (more n (rt n 64 0) = 1) := by
    rw [Bool.eq_iff_iff, decide_eq_true_iff, decide_eq_true_iff, more_one]
  rw [e] at h
  exact ⟨_, rt_isq (by rw [show (2 : Nat) ^ 64 * 2 ^ 64 = 340282366920938463463374607431768211456 by decide]; omega), h⟩
/-- A finite number's root, above 0. -/
theorem sqrt_ev {a : Int} (a0 : 0 ≤ a) (a1 : a < 9223372036854775808) (hX : cls a = 1) {m : Nat} (hm : sg a = (m : Int)) (m0 : m ≠ 0) :
    ∃ (j q : Nat) (X e : Int), ex a - j = 2 * X ∧ 74 ≤ j ∧ j ≤ 128 ∧ 85070591730234615865843651857942052864 ≤ m * 2 ^ j ∧ bl q = 64 ∧ isq (m * 2 ^ j) q ∧ canon (2 * q + more (m * 2 ^ j) q) 1 (X - 1) e ∧
      ∀ mode : Int, Ev (fun k => fsqrt_Sqrt.f k a mode) (finR false (2 * q + more (m * 2 ^ j) q) 1 (X - 1) e mode) := by
  obtain ⟨hE, _⟩ := cls_one hX
  obtain ⟨_, p2, p3, p4, p5, _⟩ := parts_of a0 (by omega) hE
  have hm2 : m < 9007199254740992 := by omega
  obtain ⟨m1, m2, m3, m4⟩ := norm_bd m0 hm2
  have lm := lz64 (a := m) (by omega)
  have A := class_ev a0 (show a < 18446744073709551616 by omega)
  rw [hX] at A
  have hs : Go.bits .and .u64 a 9223372036854775808 = 0 := by rw [and63 a0 (by omega)]; omega
  -- behind the shift
  have key : ∀ (s : Nat) (R : Int), s ≤ 64 → 10 ≤ s → m * 2 ^ s < 18446744073709551616 → 4611686018427387904 ≤ m * 2 ^ s → (ex a - s) % 2 = 0 →
      ∃ (j q : Nat) (X e : Int), ex a - j = 2 * X ∧ 74 ≤ j ∧ j ≤ 128 ∧ 85070591730234615865843651857942052864 ≤ m * 2 ^ j ∧ bl q = 64 ∧ isq (m * 2 ^ j) q ∧ canon (2 * q + more (m * 2 ^ j) q) 1 (X - 1) e ∧
      ∀ mode : Int, Ev (fun k => (fsqrt_root.f k (shl .u64 (m : Int) (s : Int)) 0).bind fun bt141 => ((parts_Round.f k false 0 bt141.1 (wrap64 (Int.tdiv (wrap64 ((wrap64 (ex a - (s : Int))) - 64)) 2)) bt141.2 mode).bind fun bt143 => (some (bt143.1, bt143.2)))) (finR false (2 * q + more (m * 2 ^ j) q) 1 (X - 1) e mode) := by
    intro s _ hs1 hs2 hlt hge hev
    have hsh : shl .u64 (m : Int) (s : Int) = ((m * 2 ^ s : Nat) : Int) := by rw [shl_nat (by omega), Nat.mod_eq_of_lt hlt]
    have hN : m * 2 ^ (s + 64) = m * 2 ^ s * 18446744073709551616 := by rw [Nat.pow_add, ← Nat.mul_assoc]
    obtain ⟨q, hq, hr⟩ := root_ev (hi := m * 2 ^ s) (lo := 0) (n := m * 2 ^ (s + 64)) (by rw [hN, Nat.add_zero]) (by omega) hlt
    obtain ⟨X, hXX⟩ : ∃ X : Int, ex a - ((s + 64 : Nat) : Int) = 2 * X := ⟨(ex a - ((s + 64 : Nat) : Int)) / 2, by omega⟩
    have hbig : 85070591730234615865843651857942052864 ≤ m * 2 ^ (s + 64) := by rw [hN]; omega
    have hb1 : 63 < bl q := big_root hq (k := 63) hbig
    have hb2 : q < 18446744073709551616 := by
      apply Nat.lt_of_not_le
      intro h
      have h1 := Nat.mul_le_mul h h
      have h2 := hq.1
      omega
    have hb : bl q = 64 := by have := bl_le (n := 64) (show q < 2 ^ 64 from hb2); omega
    have hcl := clamp_in (x := X) (by omega) (by omega)
    obtain ⟨hc, _⟩ := root_round (W := q) (c := more (m * 2 ^ (s + 64)) q) (more_le _ _) X 0 (by omega) hcl
    refine ⟨s + 64, q, X, _, hXX, by omega, by omega, hbig, hb, hq, hc, fun mode => ?_⟩
    obtain ⟨_, hro⟩ := root_round (W := q) (c := more (m * 2 ^ (s + 64)) q) (more_le _ _) X mode (by omega) hcl
    have Rr := round_ev false (h := 0) (l := q) (W := q) (by rw [Nat.zero_mul, Nat.zero_add]) (by omega) hb2 X (decide (more (m * 2 ^ (s + 64)) q = 1)) mode
    rw [hro] at Rr
    have hx : wrap64 (Int.tdiv (wrap64 (wrap64 (ex a - (s : Int)) - 64)) 2) = X := by
      rw [w64 (x := ex a - (s : Int)) (by omega) (by omega), w64 (x := ex a - (s : Int) - 64) (by omega) (by omega), show ex a - (s : Int) - 64 = 2 * X by omega, Int.mul_comm, Int.mul_tdiv_cancel _ (by omega), w64 (by omega) (by omega)]
    rw [hsh, hx]
    refine Ev.bind hr ?_
    exact Ev.bind Rr (Ev.now _)
  obtain ⟨t, ht⟩ : ∃ t, 64 - bl m = t + 1 := ⟨63 - bl m, by omega⟩
  rw [ht] at m3 m4 lm
  have hM : m * 2 ^ (t + 1) = 2 * (m * 2 ^ t) := by rw [Nat.pow_succ, ← Nat.mul_assoc, Nat.mul_comm]
  by_cases g : (ex a - ((t + 1 : Nat) : Int)) % 2 = 0
  · obtain ⟨j, q, X, e, k1, k2, k3, k4, k5, k6, k7, k8⟩ := key (t + 1) 0 (by omega) (by omega) m3 (by omega) g
    refine ⟨j, q, X, e, k1, k2, k3, k4, k5, k6, k7, fun mode => ?_⟩
    have k8 := k8 mode
    unfold fsqrt_Sqrt.f
    refine Ev.bind A ?_
    rw [hs, split_eq a0 (by omega), if_neg hE]
    simp only [if_neg (show ¬ (1 : Int) = 3 by decide), if_neg (show ¬ (1 : Int) = 0 by decide), if_true, if_neg (show ¬ (1 : Int) = 2 by decide), Option.bind_some]
    rw [hm, lm]
    simp only [Option.bind_some]
    rw [and1_i64, w64 (x := ex a - ((t + 1 : Nat) : Int)) (by omega) (by omega)]
    rw [w64 (x := ex a - ((t + 1 : Nat) : Int)) (by omega) (by omega)] at k8
    simp only [if_pos g, if_pos (show (0 : Int) ≤ ((t + 1 : Nat) : Int) by omega)]
    exact k8
  · obtain ⟨j, q, X, e, k1, k2, k3, k4, k5, k6, k7, k8⟩ := key t 0 (by omega) (by omega) (by omega) (by omega) (by omega)
    refine ⟨j, q, X, e, k1, k2, k3, k4, k5, k6, k7, fun mode => ?_⟩
    have k8 := k8 mode
    unfold fsqrt_Sqrt.f
    refine Ev.bind A ?_
    rw [hs, split_eq a0 (by omega), if_neg hE]
    simp only [if_neg (show ¬ (1 : Int) = 3 by decide), if_neg (show ¬ (1 : Int) = 0 by decide), if_true, if_neg (show ¬ (1 : Int) = 2 by decide), Option.bind_some]
    rw [hm, lm]
    simp only [Option.bind_some]
    rw [and1_i64, w64 (x := ex a - ((t + 1 : Nat) : Int)) (by omega) (by omega), w64 (x := ((t + 1 : Nat) : Int) - 1) (by omega) (by omega), show ((t + 1 : Nat) : Int) - 1 = (t : Int) by omega]
    simp only [if_neg g, if_pos (show (0 : Int) ≤ (t : Int) by omega)]
    exact k8
theorem mone_eq : vernierref06_one.f = some [1] := by decide +kernel
theorem mul_fin {a b : Int} (a0 : 0 ≤ a) (a1 : a < 18446744073709551616) (b0 : 0 ≤ b) (b1 : b < 18446744073709551616) (hX : cls a = 1) (hY : cls b = 1) {m k : Nat} (hm : sg a = (m : Int)) (hk : sg b = (k : Int)) (_m0 : m ≠ 0) (_k0 : k ≠ 0) (mode : Int) :
    ∃ e, canon (m * k) 1 (ex a + ex b) e ∧ Ev (fun n => vernierref06_Mul.f n a b mode) (finR (decide (a ≥ 9223372036854775808) != decide (b ≥ 9223372036854775808)) (m * k) 1 (ex a + ex b) e mode) := by
  have A := rclass_ev a0 a1
  have B := rclass_ev b0 b1
  rw [hX] at A
  rw [hY] at B
  obtain ⟨hEa, _⟩ := cls_one hX
  obtain ⟨hEb, _⟩ := cls_one hY
  obtain ⟨_, _, p3, p4, p5, _⟩ := parts_of a0 a1 hEa
  obtain ⟨_, _, r3, r4, r5, _⟩ := parts_of b0 b1 hEb
  have sa := rsplit_eq a0 a1
  have sb := rsplit_eq b0 b1
  rw [show (if E a = 0 then (-1074 : Int) else E a - 1075) = ex a from rfl, hm] at sa
  rw [show (if E b = 0 then (-1074 : Int) else E b - 1075) = ex b from rfl, hk] at sb
  have hm2 : m < 9007199254740992 := by omega
  have hk2 : k < 9007199254740992 := by omega
  have n1 : nd m ≤ 4 := nd_lt (Nat.lt_of_lt_of_le hm2 (by decide))
  have n2 : nd k ≤ 4 := nd_lt (Nat.lt_of_lt_of_le hk2 (by decide))
  have nlt : m * k < 2 ^ 130 := Nat.lt_trans (Nat.mul_lt_mul'' hm2 hk2) (by decide)
  have W1 := word_ev (m := m) (by omega)
  have W2 := word_ev (m := k) (by omega)
  have M := mul_ev m k (by omega)
  have hM0 : m * k ≠ 0 := by rw [Ne, Nat.mul_eq_zero]; omega
  suffices h : ∀ N : Bool, ∃ e, canon (m * k) 1 (ex a + ex b) e ∧ Ev (fun n => vernierref06_Mul.j0 n a b mode 1 1 N false) (finR N (m * k) 1 (ex a + ex b) e mode) by
    obtain ⟨e, hc, h⟩ := h (decide (a ≥ 9223372036854775808) != decide (b ≥ 9223372036854775808))
    refine ⟨e, hc, ?_⟩
    unfold vernierref06_Mul.f
    exact Ev.bind A (Ev.bind B h)
  intro N
  obtain ⟨e, hc, R⟩ := rround_ev N (N := m * k) (D := 1) (by have := nd_wide nlt; omega) (by rw [nd_one]; omega) hM0 (by omega) (ex a + ex b) mode (by omega) (by omega)
  rw [toN_one] at R
  refine ⟨e, hc, ?_⟩
  refine Ev.step (f := fun k => vernierref06_Mul.j1 k a b mode 1 1 N false) (fun k => rfl) ?_
  refine Ev.step (f := fun k => vernierref06_Mul.j2 k a b mode 1 1 N false) (fun k => rfl) ?_
  refine Ev.step (f := fun k => (vernierref06_Split.f a).bind fun bt246 => ((vernierref06_Split.f b).bind fun bt249 => ((vernierref01_Word.f k bt246.2.1).bind fun t252 => ((vernierref01_Word.f k bt249.2.1).bind fun t255 => ((vernierref01_Mul.f k t252 t255).bind fun t258 => ((vernierref06_one.f).bind fun t261 => ((vernierref06_Round.f k N t258 t261 (wrap64 (bt246.2.2 + bt249.2.2)) mode).bind fun bt264 => (some (bt264.1, bt264.2))))))))) (fun k => rfl) ?_
  rw [sa, sb, mone_eq]
  simp only [Option.bind_some]
  rw [w64 (by omega) (by omega)]
  exact Ev.bind W1 (Ev.bind W2 (Ev.bind M (Ev.bind R (Ev.now _))))
theorem alive10_ev : Ev (fun k => vernierlaw10_alive.f k) true := Ev.of vernierlaw10_alive.mono (k := 300) (by decide +kernel)
theorem clr63 {a : Int} (a0 : 0 ≤ a) (a1 : a < 18446744073709551616) : Go.bits .andNot .u64 a 9223372036854775808 = a % 9223372036854775808 := by
  obtain ⟨x, rfl⟩ := Int.eq_ofNat_of_zero_le a0
  have h := u64_andNot_nat x 9223372036854775808 (by omega) (by omega)
  rw [show ((9223372036854775808 : Nat) : Int) = 9223372036854775808 from rfl] at h
  rw [h, show (18446744073709551615 - 9223372036854775808 : Nat) = 2 ^ 63 - 1 by decide, Nat.and_two_pow_sub_one_eq_mod]
  omega
theorem code_parts {q : Nat} {e : Int} (h0 : q ≠ 0) (h1 : q < 9007199254740992) (h2 : -1074 ≤ e) (hc : 4503599627370496 ≤ q ∨ e = -1074) (hi : (q : Int) + (e + 1074) * 4503599627370496 < 9218868437227405312) {p : Int} (hp : p = (q : Int) + (e + 1074) * 4503599627370496) :
    0 ≤ p ∧ p < 9223372036854775808 ∧ cls p = 1 ∧ sg p = (q : Int) ∧ ex p = e ∧ decide (p ≥ 9223372036854775808) = false := by
  have P := of_parts false (q := (q : Int)) (e := e) (by omega) (by omega) h2 (by omega) hi
  rw [show sgn false = 0 from rfl, Int.zero_add, ← hp] at P
  refine ⟨by omega, by omega, ?_, P.1, P.2, decide_eq_false (by omega)⟩
  unfold cls E F
  rw [if_neg (by omega), if_neg (by omega)]
theorem FsqrtNear : vernierlaw10_FsqrtNear.Pure := by
  intro a ha
  obtain ⟨a0, a1⟩ := u64_bd ha
  refine Ev.rounds ?_
  unfold vernierlaw10_FsqrtNear.f
  refine Ev.bind alive10_ev ?_
  simp only [if_true]
  rw [clr63 a0 a1]
  obtain ⟨b, hb⟩ : ∃ b, a % 9223372036854775808 = b := ⟨_, rfl⟩
  rw [hb]
  have b0 : 0 ≤ b := by omega
  have b1 : b < 9223372036854775808 := by omega
  refine Ev.bind (rclass_ev b0 (show b < 18446744073709551616 by omega)) ?_
  by_cases h : cls b = 1
  · simp only [if_pos h]
    obtain ⟨hE, m, hm, m0⟩ := cls_one h
    obtain ⟨p1, p2, p3, p4, p5, p6⟩ := parts_of b0 (by omega) hE
    rw [show neg b = false from decide_eq_false (by omega), show sgn false = 0 from rfl, Int.zero_add, hm] at p1
    obtain ⟨j, q, X, e, k1, k2, k3, k4, k5, k6, k7, k8⟩ := sqrt_ev b0 b1 h hm m0
    have hm2 : m < 9007199254740992 := by omega
    have hmc : 4503599627370496 ≤ m ∨ ex b = -1074 := by omega
    have hbi : (m : Int) + (ex b + 1074) * 4503599627370496 < 9218868437227405312 := by
      have := E_bd b
      rw [← p1]
      unfold E at hE
      omega
    obtain ⟨d1, d2, d3, d4, d5⟩ := root_down (n := m * 2 ^ j) k5 (by omega) (by omega) k6 k7
    have hlow := near_low (n := m * 2 ^ j) rfl (by omega) k6
    refine Ev.bind (k8 4) (Ev.bind (k8 3) ?_)
    rw [d4]
    obtain ⟨x, hx⟩ : ∃ x : Int, x = ((q / 2048 : Nat) : Int) + (X + 1085) * 4503599627370496 := ⟨_, rfl⟩
    obtain ⟨q1, q2, q3, q4, q5, q6⟩ := code_parts (q := q / 2048) (e := X + 11) (by omega) d3 (by omega) (Or.inl d2) (by omega) (p := x) (by omega)
    rw [← hx] at d5 ⊢
    -- what is rounded down
    obtain ⟨e1, c1, M1⟩ := mul_fin q1 (by omega) q1 (by omega) q3 q3 q4 q4 (by omega) (by omega) 4
    rw [q6, show (false != false) = false from rfl, q5] at M1
    rw [q5] at c1
    have L := down_le c1 hm2 hmc (f := ex b) (by
      unfold shA shB
      rw [show (X + 11 + (X + 11) - ex b).toNat = 0 by omega, show (-(X + 11 + (X + 11) - ex b)).toNat = j - 22 by omega, Nat.pow_zero, Nat.mul_one, Nat.one_mul]
      exact hlow) p4 hbi
    rw [← p1] at L
    -- what is rounded up
    have H : ∃ (y : Int) (z : Int × Int), (finR false (2 * q + more (m * 2 ^ j) q) 1 (X - 1) e 3).1 = y ∧ Ev (fun k => vernierref06_Mul.f k y y 3) z ∧ b ≤ z.1 ∧ x ≤ y ∧ y ≤ x + 1 := by
      rcases d5 with ⟨d5, d6, d7⟩ | d5
      · have hex := near_exact (n := m * 2 ^ j) rfl (by omega) d6 d7
        obtain ⟨e2, c2, M2⟩ := mul_fin q1 (by omega) q1 (by omega) q3 q3 q4 q4 (by omega) (by omega) 3
        rw [q6, show (false != false) = false from rfl, q5] at M2
        rw [q5] at c2
        refine ⟨x, _, d5, M2, ?_, by omega, by omega⟩
        have := up_ge c2 hm2 hmc (f := ex b) (by
          unfold shA shB
          rw [show (X + 11 + (X + 11) - ex b).toNat = 0 by omega, show (-(X + 11 + (X + 11) - ex b)).toNat = j - 22 by omega, Nat.pow_zero, Nat.mul_one, Nat.one_mul]
          exact hex) p4 hbi
        rw [← p1] at this; exact this
      · by_cases gt : q / 2048 + 1 = 9007199254740992
        · have hto := near_top (n := m * 2 ^ j) rfl (by omega) k6 gt
          obtain ⟨r1, r2, r3, r4, r5, r6⟩ := code_parts (q := 4503599627370496) (e := X + 12) (by omega) (by omega) (by omega) (Or.inl (by omega)) (by omega) (p := x + 1) (by omega)
          obtain ⟨e2, c2, M2⟩ := mul_fin r1 (by omega) r1 (by omega) r3 r3 r4 r4 (by omega) (by omega) 3
          rw [r6, show (false != false) = false from rfl, r5] at M2
          rw [r5] at c2
          refine ⟨x + 1, _, d5, M2, ?_, by omega, by omega⟩
          have := up_ge c2 hm2 hmc (f := ex b) (by
            unfold shA shB
            rw [show (X + 12 + (X + 12) - ex b).toNat = 0 by omega, show (-(X + 12 + (X + 12) - ex b)).toNat = j - 24 by omega, Nat.pow_zero, Nat.mul_one, Nat.one_mul]
            exact hto) p4 hbi
          rw [← p1] at this; exact this
        · have hhi := near_high (n := m * 2 ^ j) rfl (by omega) k6
          obtain ⟨r1, r2, r3, r4, r5, r6⟩ := code_parts (q := q / 2048 + 1) (e := X + 11) (by omega) (by omega) (by omega) (Or.inl (by omega)) (by omega) (p := x + 1) (by omega)
          obtain ⟨e2, c2, M2⟩ := mul_fin r1 (by omega) r1 (by omega) r3 r3 r4 r4 (by omega) (by omega) 3
          rw [r6, show (false != false) = false from rfl, r5] at M2
          rw [r5] at c2
          refine ⟨x + 1, _, d5, M2, ?_, by omega, by omega⟩
          have := up_ge c2 hm2 hmc (f := ex b) (by
            unfold shA shB
            rw [show (X + 11 + (X + 11) - ex b).toNat = 0 by omega, show (-(X + 11 + (X + 11) - ex b)).toNat = j - 22 by omega, Nat.pow_zero, Nat.mul_one, Nat.one_mul]
            exact hhi) p4 hbi
          rw [← p1] at this; exact this
    obtain ⟨y, z, hy, M2, z1, z2, z3⟩ := H
    rw [hy]
    refine Ev.bind M1 (Ev.bind M2 ?_)
    simp only [if_pos L, if_pos z1, if_pos z2]
    refine Ev.congr (fun k => ?_) (Ev.now true)
    rw [wraps_u64 _ (by omega) (by omega), decide_eq_true (by omega)]
  · simp only [if_neg h]; exact Ev.now _
end Go.Proofs.Ytklkebbdjppnkaa.Pure
