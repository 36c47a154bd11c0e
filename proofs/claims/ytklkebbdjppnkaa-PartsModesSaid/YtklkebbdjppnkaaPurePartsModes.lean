import Derived.Test.YtklkebbdjppnkaaPPartsModesx4
import Derived.Laws.BitsLemmas
import Derived.Laws.BitsAllLaws
namespace Go.Proofs.Ytklkebbdjppnkaa.Pure
open Go.RowKit Go.Proofs.Ytklkebbdjppnkaa.PPartsModes Go.Proofs.YtklkebbdjppnkaaW.PrintWords Go.Proofs.YtklkebbdjppnkaaW.PrintLast Go.Proofs.YtklkebbdjppnkaaW.PrintMore
-- Whole numbers that fit; places in a matrix; lists made of a function.
theorem w64 {x : Int} (h0 : -9223372036854775808 ≤ x) (h1 : x < 9223372036854775808) : wrap64 x = x := by unfold wrap64; omega
theorem wN (n : Nat) (h : n < 9223372036854775808) : wrap64 (n : Int) = (n : Int) := w64 (by omega) (by omega)
theorem wmul (a b : Nat) (h : a * b < 9223372036854775808) : wrap64 ((a : Int) * (b : Int)) = ((a * b : Nat) : Int) := by rw [← Int.natCast_mul]; exact wN _ h
theorem wadd (a b : Nat) (h : a + b < 9223372036854775808) : wrap64 ((a : Int) + (b : Int)) = ((a + b : Nat) : Int) := by rw [← Int.natCast_add]; exact wN _ h
theorem wsucc (a : Nat) (h : a + 1 < 9223372036854775808) : wrap64 ((a : Int) + 1) = ((a + 1 : Nat) : Int) := wadd a 1 h
theorem place_lt {i j r c : Nat} (hi : i < r) (hj : j < c) : i * c + j < r * c := by
  have : (i + 1) * c ≤ r * c := Nat.mul_le_mul_right c hi
  rw [Nat.add_mul, Nat.one_mul] at this; omega
theorem place_div {i j c : Nat} (hj : j < c) : (i * c + j) / c = i := by
  rw [Nat.mul_comm, Nat.mul_add_div (by omega), Nat.div_eq_of_lt hj, Nat.add_zero]
theorem place_mod {i j c : Nat} (hj : j < c) : (i * c + j) % c = j := by
  rw [Nat.mul_comm, Nat.mul_add_mod, Nat.mod_eq_of_lt hj]
theorem place_of (k c : Nat) : k / c * c + k % c = k := by rw [Nat.mul_comm]; exact Nat.div_add_mod k c
theorem div_lt_of {k r c : Nat} (h : k < r * c) : k / c < r := Nat.div_lt_of_lt_mul (by rw [Nat.mul_comm]; exact h)
theorem mod_lt_of {k r c : Nat} (h : k < r * c) : k % c < c := Nat.mod_lt _ (by rcases Nat.eq_zero_or_pos c with rfl | h' <;> omega)
def mk (n : Nat) (f : Nat → Int) : List Int := (List.range n).map f
theorem mk_len (n : Nat) (f : Nat → Int) : (mk n f).length = n := by simp [mk]
theorem mk_get (n : Nat) (f : Nat → Int) (k : Nat) (h : k < n) : (mk n f).getD k 0 = f k := by
  simp [mk, List.getD_eq_getElem?_getD, h]
theorem rd_mk (n : Nat) (f : Nat → Int) (k : Nat) (h : k < n) : rd (mk n f) (k : Int) = f k := mk_get n f k h
theorem rd_nat (l : List Int) (k : Nat) : rd l (k : Int) = l.getD k 0 := rfl
theorem mk_congr {n : Nat} {f g : Nat → Int} (h : ∀ k, k < n → f k = g k) : mk n f = mk n g := List.map_congr_left (fun k hk => h k (List.mem_range.1 hk))
theorem mk_set (n : Nat) (f : Nat → Int) (p : Nat) (v : Int) : (mk n f).set p v = mk n (fun k => if k = p then v else f k) := by
  apply List.ext_getElem
  · simp [mk]
  · intro i h1 h2
    simp only [mk, List.length_set, List.length_map, List.length_range] at h1
    rw [List.getElem_set]
    simp only [mk, List.getElem_map, List.getElem_range]
    by_cases e : p = i
    · subst e; simp
    · rw [if_neg e, if_neg (fun h => e h.symm)]
theorem mk_const (n : Nat) (v : Int) : List.replicate n v = mk n (fun _ => v) := by
  apply List.ext_getElem
  · simp [mk]
  · intro i h1 h2; simp [mk]
theorem mk_self (l : List Int) : mk l.length (fun k => l.getD k 0) = l := by
  apply List.ext_getElem
  · simp [mk]
  · intro i h1 h2
    simp only [mk, List.getElem_map, List.getElem_range]
    rw [List.getD_eq_getElem?_getD, List.getElem?_eq_getElem h2]; rfl
theorem mk_eq {n : Nat} {f : Nat → Int} {l : List Int} (hl : l.length = n) (h : ∀ k, k < n → l.getD k 0 = f k) : l = mk n f := by
  subst hl
  exact (mk_self l).symm.trans (mk_congr h)
theorem Ev.no {α : Type} {g : Nat → Option α} {r : α} (h : ∀ k, g (k + 1) = some r) : Ev g r := Ev.step (f := fun _ => some r) h (Ev.now r)
-- Words of 64 bits: masks and joins.
theorem wraps_u64 (n : Int) (h₀ : 0 ≤ n) (h₁ : n < 2 ^ 64) : IntKind.u64.wrap n = n := by rw [IntKind.wrap_u64]; omega
theorem mask64 (i : Nat) (hi : i ≤ 64) (x : Int) (h0 : 0 ≤ x) (h1 : x < 18446744073709551616) : Go.bits .and .u64 x (2 ^ i - 1) = x % 2 ^ i :=
  bits_mask .u64 64 (by decide) wraps_u64 i hi x h0 (by omega)
theorem and2047 {x : Int} (h0 : 0 ≤ x) (h1 : x < 18446744073709551616) : Go.bits .and .u64 x 2047 = x % 2048 := by have := mask64 11 (by omega) x h0 h1; simpa using this
theorem and52 {x : Int} (h0 : 0 ≤ x) (h1 : x < 18446744073709551616) : Go.bits .and .u64 x 4503599627370495 = x % 4503599627370496 := by have := mask64 52 (by omega) x h0 h1; simpa using this
theorem and1_u64 {x : Int} (h0 : 0 ≤ x) (h1 : x < 18446744073709551616) : Go.bits .and .u64 x 1 = x % 2 := by have := mask64 1 (by omega) x h0 h1; simpa using this
theorem and63 {x : Int} (h0 : 0 ≤ x) (h1 : x < 18446744073709551616) : Go.bits .and .u64 x 9223372036854775808 = x / 9223372036854775808 * 9223372036854775808 := by
  obtain ⟨a, rfl⟩ := Int.eq_ofNat_of_zero_le h0
  have h := u64_and_nat a 9223372036854775808 (by omega) (by omega)
  rw [show ((9223372036854775808 : Nat) : Int) = 9223372036854775808 from rfl] at h
  rw [h, nat_hi64_63]; omega
theorem or64_join (i : Nat) (y x : Int) (hy : 0 ≤ y) (hy' : y < 2 ^ i) (hx : 0 ≤ x) (hx' : x % 2 ^ i = 0) (h1 : y < 18446744073709551616) (h2 : x < 18446744073709551616) : Go.bits .or .u64 y x = y + x ∧ Go.bits .or .u64 x y = x + y := by
  have h := bits_join .u64 64 (by decide) wraps_u64 i x y hx hx' (by omega) hy hy' (by omega)
  refine ⟨?_, h⟩
  obtain ⟨a, rfl⟩ := Int.eq_ofNat_of_zero_le hy
  obtain ⟨b, rfl⟩ := Int.eq_ofNat_of_zero_le hx
  rw [u64_or_nat b a (by omega) (by omega)] at h
  rw [u64_or_nat a b (by omega) (by omega), Nat.or_comm, h]; omega
theorem or52 {y : Int} (h0 : 0 ≤ y) (h1 : y < 4503599627370496) : Go.bits .or .u64 y 4503599627370496 = y + 4503599627370496 :=
  (or64_join 52 y 4503599627370496 h0 (by omega) (by omega) (by decide) (by omega) (by omega)).1
def bl (a : Nat) : Nat := if h : a = 0 then 0 else bl (a / 2) + 1
termination_by a
decreasing_by omega
theorem bl_zero : bl 0 = 0 := by rw [bl]; rfl
theorem bl_pos {a : Nat} (h : a ≠ 0) : bl a = bl (a / 2) + 1 := by rw [bl]; simp [h]
theorem lt_bl : ∀ a : Nat, a < 2 ^ bl a := by
  intro a
  induction a using Nat.strongRecOn with
  | _ a ih =>
    by_cases h : a = 0
    · subst h; rw [bl_zero]; decide
    · rw [bl_pos h, Nat.pow_succ]
      have := ih (a / 2) (by omega)
      omega
theorem le_bl {a : Nat} (h : a ≠ 0) : 2 ^ (bl a - 1) ≤ a := by
  induction a using Nat.strongRecOn with
  | _ a ih =>
    rw [bl_pos h, Nat.add_sub_cancel]
    by_cases g : a / 2 = 0
    · rw [g, bl_zero]; simp; omega
    · have h1 := ih (a / 2) (by omega) g
      have h2 : bl (a / 2) = bl (a / 2) - 1 + 1 := by rw [bl_pos g]; omega
      rw [h2, Nat.pow_succ]; omega
theorem bl_le {a n : Nat} (h : a < 2 ^ n) : bl a ≤ n := by
  by_cases g : a = 0
  · subst g; rw [bl_zero]; omega
  · have := Nat.lt_of_le_of_lt (le_bl g) h
    have := (Nat.pow_lt_pow_iff_right (a := 2) (by omega)).1 this
    omega
theorem bl_gt {a n : Nat} (h : 2 ^ n ≤ a) : n < bl a := (Nat.pow_lt_pow_iff_right (a := 2) (by omega)).1 (Nat.lt_of_le_of_lt h (lt_bl a))
theorem bl_eq {a n : Nat} (h : 2 ^ n ≤ a) (h' : a < 2 ^ (n + 1)) : bl a = n + 1 := by have := bl_gt h; have := bl_le h'; omega
-- A binary64 number's parts, and what the printed functions of them come to.
def E (a : Int) : Int := a / 4503599627370496 % 2048
def F (a : Int) : Int := a % 4503599627370496
def cls (a : Int) : Int := if E a = 2047 then (if F a = 0 then 2 else 3) else if E a = 0 ∧ F a = 0 then 0 else 1
def sg (a : Int) : Int := if E a = 0 then F a else F a + 4503599627370496
def ex (a : Int) : Int := if E a = 0 then -1074 else E a - 1075
def neg (a : Int) : Bool := decide (a ≥ 9223372036854775808)
theorem E_bd (a : Int) : 0 ≤ E a ∧ E a < 2048 := by unfold E; omega
theorem F_bd (a : Int) : 0 ≤ F a ∧ F a < 4503599627370496 := by unfold F; omega
theorem u64_bd {a : Int} (h : (Lit.int .u64 a).wf = true) : 0 ≤ a ∧ a < 18446744073709551616 := by
  have := (by simpa [Lit.wf, IntKind.min, IntKind.max, IntKind.bits, IntKind.signed] using h : 0 ≤ a ∧ a ≤ 18446744073709551615); omega
theorem i64_bd {a : Int} (h : (Lit.int .i64 a).wf = true) : -9223372036854775808 ≤ a ∧ a < 9223372036854775808 := by
  have := (by simpa [Lit.wf, IntKind.min, IntKind.max, IntKind.bits, IntKind.signed] using h : -9223372036854775808 ≤ a ∧ a ≤ 9223372036854775807); omega
-- A natural of two words: how many bits, its shifts, its cut.
theorem bitLenAux_bl : ∀ (f a : Nat), a < 2 ^ f → Lib.bitLenAux f a = bl a := by
  intro f
  induction f with
  | zero => intro a h; obtain rfl : a = 0 := by simpa using h
            rw [bl_zero]; rfl
  | succ f ih =>
    intro a h
    by_cases g : a = 0
    · subst g; rw [bl_zero]; rfl
    · rw [Nat.pow_succ] at h
      rw [bl_pos g, Lib.bitLenAux, if_neg g, ih (a / 2) (by omega), Nat.add_comm]
theorem bitLen_bl {a : Nat} (h : a < 18446744073709551616) : Lib.bitLen a = bl a := bitLenAux_bl 64 a (by simpa using h)
theorem len64 {a : Nat} (h : a < 18446744073709551616) : bits_Len64.f (a : Int) = some (bl a : Int) := by
  unfold bits_Len64.f
  rw [if_pos (by omega), Int.toNat_natCast, bitLen_bl h]
theorem bl64 {a : Nat} (h : a < 18446744073709551616) : bl a ≤ 64 := bl_le (by simpa using h)
theorem bl_wide {h l : Nat} (hl : l < 18446744073709551616) (g : h ≠ 0) : bl (h * 18446744073709551616 + l) = 64 + bl h := by
  have h1 := lt_bl h
  have h2 := le_bl g
  have h3 : bl h = bl h - 1 + 1 := by rw [bl_pos g]; omega
  generalize bl h - 1 = b at *
  rw [h3] at h1 ⊢
  have e : (2 : Nat) ^ (64 + b) = 18446744073709551616 * 2 ^ b := by rw [Nat.pow_add]
  have e' : (2 : Nat) ^ (64 + b + 1) = 18446744073709551616 * 2 ^ (b + 1) := by rw [Nat.add_assoc, Nat.pow_add]
  rw [bl_eq (n := 64 + b)]
  · omega
  · rw [e]; omega
  · rw [e']; omega
theorem wlen {h l : Nat} (hh : h < 18446744073709551616) (hl : l < 18446744073709551616) : parts_wide_len.f (h : Int) (l : Int) = some (bl (h * 18446744073709551616 + l) : Int) := by
  unfold parts_wide_len.f
  by_cases g : h = 0
  · subst g
    rw [if_pos (by rfl), len64 hl, Nat.zero_mul, Nat.zero_add]; rfl
  · have := bl64 hh
    rw [if_neg (by omega), len64 hh, bl_wide hl g]
    simp only [Option.bind_some]
    rw [w64 (by omega) (by omega)]; congr 1
theorem p64 {n : Nat} (h : n ≤ 64) : (2 : Nat) ^ n * 2 ^ (64 - n) = 18446744073709551616 := by rw [← Nat.pow_add, show n + (64 - n) = 64 by omega]
theorem shr_nat {h n : Nat} (hn : n ≤ 64) : shr .u64 (h : Int) (n : Int) = ((h / 2 ^ n : Nat) : Int) := by
  unfold shr
  rw [Int.toNat_natCast, show min n IntKind.u64.bits = n from Nat.min_eq_left hn, Int.natCast_ediv, Int.natCast_pow]; rfl
theorem shl_nat {h n : Nat} (hn : n ≤ 64) : shl .u64 (h : Int) (n : Int) = ((h * 2 ^ n % 18446744073709551616 : Nat) : Int) := by
  unfold shl
  rw [Int.toNat_natCast, show min n IntKind.u64.bits = n from Nat.min_eq_left hn, IntKind.wrap_u64, Int.natCast_emod, Int.natCast_mul, Int.natCast_pow]; rfl
theorem wshr {h l n : Nat} (hh : h < 18446744073709551616) (hl : l < 18446744073709551616) :
    parts_wide_shr.f (h : Int) (l : Int) (n : Int) = some ((((h * 18446744073709551616 + l) / 2 ^ n / 18446744073709551616 : Nat) : Int), (((h * 18446744073709551616 + l) / 2 ^ n % 18446744073709551616 : Nat) : Int)) := by
  unfold parts_wide_shr.f
  by_cases h1 : 128 ≤ n
  · rw [if_pos (by omega)]
    have : (h * 18446744073709551616 + l) / 2 ^ n = 0 := Nat.div_eq_of_lt (Nat.lt_of_lt_of_le (show _ < 2 ^ 128 by omega) (Nat.pow_le_pow_right (by omega) h1))
    rw [this]; rfl
  rw [if_neg (by omega)]
  by_cases h2 : 64 ≤ n
  · rw [if_pos (by omega), w64 (by omega) (by omega), if_pos (by omega), show (n : Int) - 64 = ((n - 64 : Nat) : Int) by omega, shr_nat (by omega)]
    have e : (h * 18446744073709551616 + l) / 2 ^ n = h / 2 ^ (n - 64) := by
      rw [show (2 : Nat) ^ n = 18446744073709551616 * 2 ^ (n - 64) by rw [show (18446744073709551616 : Nat) = 2 ^ 64 by decide, ← Nat.pow_add]; congr 1; omega, ← Nat.div_div_eq_div_mul]
      congr 1; omega
    have e2 : h / 2 ^ (n - 64) < 18446744073709551616 := Nat.lt_of_le_of_lt (Nat.div_le_self _ _) hh
    rw [e, Nat.div_eq_of_lt e2, Nat.mod_eq_of_lt e2]; rfl
  rw [if_neg (by omega)]
  by_cases h3 : n = 0
  · subst h3
    rw [if_pos (by rfl), Nat.pow_zero, Nat.div_one, show (h * 18446744073709551616 + l) / 18446744073709551616 = h by omega, show (h * 18446744073709551616 + l) % 18446744073709551616 = l by omega]
  rw [if_neg (by omega), if_pos (by omega), w64 (by omega) (by omega), if_pos (by omega), show (64 : Int) - (n : Int) = ((64 - n : Nat) : Int) by omega, shr_nat (by omega), shr_nat (by omega), shl_nat (by omega)]
  have hp := p64 (n := n) (by omega)
  have hA : 0 < 2 ^ n := Nat.pow_pos (by omega)
  have hM : 0 < 2 ^ (64 - n) := Nat.pow_pos (by omega)
  have hk : (2 : Int) ^ (64 - n) = ((2 ^ (64 - n) : Nat) : Int) := by rw [Int.natCast_pow]; rfl
  have hj := or64_join (64 - n) ((l / 2 ^ n : Nat) : Int) ((h * 2 ^ (64 - n) % 18446744073709551616 : Nat) : Int)
  rw [hk] at hj
  generalize 2 ^ (64 - n) = M at *
  generalize 2 ^ n = A at *
  have e1 : (h * 18446744073709551616 + l) / A = h * M + l / A := by
    rw [← hp, show h * (A * M) + l = l + A * (h * M) by rw [Nat.mul_left_comm, Nat.add_comm], Nat.add_mul_div_left _ _ hA, Nat.add_comm]
  have e2 : l / A < M := Nat.div_lt_of_lt_mul (by rw [hp]; exact hl)
  have e3 : h * M % (A * M) = h % A * M := Nat.mul_mod_mul_right _ _ _
  have e4 : (h * M + l / A) / (A * M) = h / A := by
    rw [Nat.mul_comm A M, ← Nat.div_div_eq_div_mul, Nat.add_comm, Nat.add_mul_div_right _ _ hM, Nat.div_eq_of_lt e2, Nat.zero_add]
  have e5 : (h * M + l / A) % (A * M) = h % A * M + l / A := by
    have d1 := Nat.div_add_mod (h * M + l / A) (A * M)
    rw [e4] at d1
    have d2 := Nat.div_add_mod h A
    have d3 : A * M * (h / A) + h % A * M = h * M := by
      conv => rhs; rw [← d2]
      rw [Nat.add_mul, Nat.mul_right_comm]
    omega
  have hlt : h % A * M < A * M := Nat.mul_lt_mul_of_pos_right (Nat.mod_lt _ hA) hM
  rw [e1]
  rw [hp] at e3 e4 e5 hlt
  rw [e4, e5]
  rw [e3] at hj ⊢
  have hd : l / A ≤ l := Nat.div_le_self _ _
  generalize l / A = y at *
  have z0 : 0 ≤ ((h % A * M : Nat) : Int) := Int.natCast_nonneg _
  have z1 : ((h % A * M : Nat) : Int) % (M : Int) = 0 := by rw [← Int.natCast_emod, Nat.mul_mod_left]; rfl
  generalize h % A * M = x at *
  have := (hj (by omega) (by omega) z0 z1 (by omega) (by omega)).1
  rw [this, ← Int.natCast_add, Nat.add_comm]
theorem pow_dvd_mod {W i m : Nat} (h : i < m) (hb : W / 2 ^ i % 2 = 1) : W % 2 ^ m ≠ 0 := by
  intro e
  obtain ⟨c, rfl⟩ := Nat.dvd_of_mod_eq_zero e
  rw [show (2 : Nat) ^ m = 2 ^ i * (2 * 2 ^ (m - i - 1)) by rw [← Nat.pow_succ', ← Nat.pow_add]; congr 1; omega, Nat.mul_assoc, Nat.mul_div_cancel_left _ (Nat.pow_pos (by omega)), Nat.mul_assoc] at hb
  omega
theorem wshrW {h l n W : Nat} (hW : h * 18446744073709551616 + l = W) (hh : h < 18446744073709551616) (hl : l < 18446744073709551616) :
    parts_wide_shr.f (h : Int) (l : Int) (n : Int) = some (((W / 2 ^ n / 18446744073709551616 : Nat) : Int), ((W / 2 ^ n % 18446744073709551616 : Nat) : Int)) := by
  rw [wshr hh hl, hW]
theorem cut_l {h l W : Nat} (hW : h * 18446744073709551616 + l = W) (hh : h < 18446744073709551616) (hl : l < 18446744073709551616) (q : Int) (half : Bool) (m : Nat) (hm : m ≤ 128) :
    ∀ j i : Nat, j + i = m → W % 2 ^ i = 0 → Ev (fun k => parts_wide_cut.l0 k q half m i h l) (q, half, decide (W % 2 ^ m ≠ 0)) := by
  intro j
  induction j with
  | zero =>
    intro i hi hz
    obtain rfl : i = m := by omega
    refine Ev.no (fun k => ?_)
    simp only [parts_wide_cut.l0]
    rw [if_neg (by omega), hz]; rfl
  | succ j ih =>
    intro i hi hz
    have a1 : Go.bits .and .u64 ((W / 2 ^ i % 18446744073709551616 : Nat) : Int) 1 = ((W / 2 ^ i % 2 : Nat) : Int) := by
      generalize W / 2 ^ i = z at *
      rw [and1_u64 (by omega) (by omega)]; omega
    by_cases hb : W / 2 ^ i % 2 = 1
    · refine Ev.no (fun k => ?_)
      simp only [parts_wide_cut.l0]
      rw [if_pos (by omega), wshrW hW hh hl]
      simp only [Option.bind_some]
      rw [a1, hb, if_pos (by rfl), decide_eq_true (pow_dvd_mod (by omega) hb)]
    · refine Ev.step (f := fun k => parts_wide_cut.l0 k q half m ((i + 1 : Nat) : Int) h l) (fun k => ?_) (ih (i + 1) (by omega) ?_)
      · simp only [parts_wide_cut.l0]
        rw [if_pos (by omega), wshrW hW hh hl]
        simp only [Option.bind_some]
        rw [a1, if_neg (by omega), wsucc _ (by omega)]
      · rw [Nat.pow_succ, Nat.mod_mul, hz, show W / 2 ^ i % 2 = 0 by omega, Nat.mul_zero]
theorem cut_pos {h l d W : Nat} (hW : h * 18446744073709551616 + l = W) (hh : h < 18446744073709551616) (hl : l < 18446744073709551616) (hd : 0 < d) (hd' : d < 1000000) :
    Ev (fun k => parts_wide_cut.f k h l d) (((W / 2 ^ d % 18446744073709551616 : Nat) : Int), decide (W / 2 ^ (d - 1) % 2 = 1), decide (W % 2 ^ (d - 1) ≠ 0)) := by
  have a1 : Go.bits .and .u64 ((W / 2 ^ (d - 1) % 18446744073709551616 : Nat) : Int) 1 = ((W / 2 ^ (d - 1) % 2 : Nat) : Int) := by
    generalize W / 2 ^ (d - 1) = z
    rw [and1_u64 (by omega) (by omega)]; omega
  have a2 : (((W / 2 ^ (d - 1) % 2 : Nat) : Int) == 1) = decide (W / 2 ^ (d - 1) % 2 = 1) := by
    generalize W / 2 ^ (d - 1) = z
    rw [Bool.eq_iff_iff, beq_iff_eq, decide_eq_true_iff]; omega
  have hw : wrap64 ((d : Int) - 1) = ((d - 1 : Nat) : Int) := by rw [w64 (by omega) (by omega)]; omega
  have hmin : mn ((d - 1 : Nat) : Int) 128 = ((min (d - 1) 128 : Nat) : Int) := by unfold mn; first | omega | (split <;> omega)
  have he : (W % 2 ^ (min (d - 1) 128) ≠ 0) = (W % 2 ^ (d - 1) ≠ 0) := by
    by_cases g : d - 1 ≤ 128
    · rw [Nat.min_eq_left g]
    · rw [Nat.min_eq_right (by omega), Nat.mod_eq_of_lt (show _ < 2 ^ 128 by omega), Nat.mod_eq_of_lt (Nat.lt_of_lt_of_le (show _ < 2 ^ 128 by omega) (Nat.pow_le_pow_right (by omega) (by omega)))]
  refine Ev.congr (f := fun k => parts_wide_cut.l0 k ((W / 2 ^ d % 18446744073709551616 : Nat) : Int) (decide (W / 2 ^ (d - 1) % 2 = 1)) ((min (d - 1) 128 : Nat) : Int) ((0 : Nat) : Int) h l) (fun k => ?_) ?_
  · unfold parts_wide_cut.f
    rw [if_neg (by omega), wshrW hW hh hl, hw, wshrW hW hh hl]
    simp only [Option.bind_some]
    rw [a1, a2, hmin]; rfl
  · have := cut_l hW hh hl ((W / 2 ^ d % 18446744073709551616 : Nat) : Int) (decide (W / 2 ^ (d - 1) % 2 = 1)) (min (d - 1) 128) (by omega) (min (d - 1) 128) 0 (by omega) (by rw [Nat.pow_zero, Nat.mod_one])
    simp only [he] at this
    exact this
theorem cut_neg {h l d W : Nat} (e : h * 18446744073709551616 + l = W) (k : Nat) (hl : l < 18446744073709551616) (hd : d ≤ 64) (hW : W * 2 ^ d < 18446744073709551616) :
    parts_wide_cut.f k h l (-(d : Int)) = some (((W * 2 ^ d : Nat) : Int), false, false) := by
  have hp : 1 ≤ 2 ^ d := Nat.pow_pos (by omega)
  have h0 : h = 0 := by
    have := Nat.le_mul_of_pos_right W hp
    omega
  subst h0
  rw [Nat.zero_mul, Nat.zero_add] at e
  subst e
  unfold parts_wide_cut.f
  rw [if_pos (by omega), w64 (by omega) (by omega), if_pos (by omega), show -(-(d : Int)) = (d : Int) by omega, shl_nat hd, Nat.mod_eq_of_lt hW]
-- parts.Round: what comes of a cut; then all of it.
def upP (neg : Bool) (q : Int) (half rest : Bool) (mode : Int) : Bool :=
  if mode = 1 then half else if mode = 2 then false else if mode = 3 then !neg && (half || rest) else if mode = 4 then neg && (half || rest) else half && (rest || decide (q % 2 = 1))
def farP (neg : Bool) (mode : Int) : Bool := decide (mode < 2) || decide (4 < mode) || (decide (mode = 3) && !neg) || (decide (mode = 4) && neg)
def sgn (neg : Bool) : Int := if neg then 9223372036854775808 else 0
def res (neg : Bool) (mode c fl : Int) : Int × Int :=
  if 9218868437227405312 ≤ c then (sgn neg + (if farP neg mode then 9218868437227405312 else 9218868437227405311), 20) else (sgn neg + c, fl)
def fin (neg : Bool) (C : Int) (half rest tiny : Bool) (mode : Int) : Int × Int :=
  res neg mode (C + (if upP neg C half rest mode then 1 else 0)) (if (half || rest) = true then (if tiny = true then 24 else 16) else 0)
def cutP (W : Nat) (d : Int) : Nat × Bool × Bool :=
  if d ≤ 0 then (W * 2 ^ (-d).toNat, false, false) else (W / 2 ^ d.toNat, decide (W / 2 ^ (d.toNat - 1) % 2 = 1), decide (W % 2 ^ (d.toNat - 1) ≠ 0))
def clampP (x : Int) : Int := mn (mx x (-16384)) 16384
theorem clamp_bd (x : Int) : -16384 ≤ clampP x ∧ clampP x ≤ 16384 := by unfold clampP mn mx; split <;> split <;> omega
def eP (n : Nat) (x : Int) : Int := mx (x + n - 53) (-1074)
def roundP (neg : Bool) (W : Nat) (x0 : Int) (more : Bool) (mode : Int) : Int × Int :=
  if W = 0 then (sgn neg, 0) else
  let x := clampP x0
  let e := eP (bl W) x
  let c := cutP W (e - x)
  fin neg ((c.1 : Int) + (e + 1074) * 4503599627370496) c.2.1 (c.2.2 || (more && (decide (55 ≤ bl W) || decide (x ≤ -1080)))) (decide (x + bl W < -1021)) mode
theorem up_eq (neg : Bool) {q : Int} (h0 : 0 ≤ q) (h1 : q < 18446744073709551616) (half rest : Bool) (mode : Int) : parts_up.f neg q half rest mode = some (upP neg q half rest mode) := by
  have hb : (Go.bits .and .u64 q 1 == 1) = decide (q % 2 = 1) := by rw [and1_u64 h0 h1, Bool.eq_iff_iff, beq_iff_eq, decide_eq_true_iff]
  unfold parts_up.f upP
  rw [hb]
  by_cases h1 : mode = 1
  · rw [if_pos h1, if_pos h1]
  rw [if_neg h1, if_neg h1]
  by_cases h2 : mode = 2
  · rw [if_pos h2, if_pos h2]
  rw [if_neg h2, if_neg h2]
  by_cases h3 : mode = 3
  · rw [if_pos h3, if_pos h3]; cases neg <;> cases half <;> rfl
  rw [if_neg h3, if_neg h3]
  by_cases h4 : mode = 4
  · rw [if_pos h4, if_pos h4]; cases neg <;> cases half <;> rfl
  rw [if_neg h4, if_neg h4]
  cases half <;> cases rest <;> rfl
theorem zero_sgn (b : Bool) : parts_Zero.f b = some (sgn b) := by cases b <;> rfl
theorem inf_eq (b : Bool) : parts_Inf.f b = some (sgn b + 9218868437227405312) := by cases b <;> decide +kernel
theorem great_eq (b : Bool) : parts_greatest.f b = some (sgn b + 9218868437227405311) := by cases b <;> decide +kernel
theorem over_j (neg x : Bool) : Ev (fun k => parts_over.j0 k neg x) (sgn neg + (if x then 9218868437227405312 else 9218868437227405311), 20) := by
  refine Ev.no (fun k => ?_)
  simp only [parts_over.j0]
  cases x
  · rw [if_neg (by decide), great_eq]; rfl
  · rw [if_pos rfl, inf_eq]; rfl
theorem over_ev (neg : Bool) (mode : Int) : Ev (fun k => parts_over.f k neg mode) (sgn neg + (if farP neg mode then 9218868437227405312 else 9218868437227405311), 20) := by
  refine Ev.congr (f := fun k => parts_over.j0 k neg (farP neg mode)) (fun k => ?_) (over_j neg _)
  unfold parts_over.f farP
  by_cases h1 : mode < 2
  · rw [if_pos h1]; simp [h1]
  rw [if_neg h1]
  by_cases h2 : mode > 4
  · rw [if_pos h2]; simp [show 4 < mode from h2]
  rw [if_neg h2]
  by_cases h3 : mode = 3
  · subst h3; cases neg <;> rfl
  rw [if_neg h3]
  by_cases h4 : mode = 4
  · subst h4; cases neg <;> rfl
  rw [if_neg h4]; simp [h1, h3, h4, show ¬ 4 < mode from h2]
theorem put_eq (neg : Bool) {q e : Int} (h0 : 0 ≤ q) (h1 : q < 9007199254740992) (h2 : -1074 ≤ e) (h3 : e + 1075 < 2047) (hc : 4503599627370496 ≤ q ∨ e = -1074) :
    parts_put.f neg q e = some (sgn neg + (q + (e + 1074) * 4503599627370496)) := by
  have hs : sgn neg = 0 ∨ sgn neg = 9223372036854775808 := by cases neg <;> simp [sgn]
  unfold parts_put.f
  rw [zero_sgn]
  simp only [Option.bind_some]
  generalize sgn neg = s at *
  by_cases g : q < 4503599627370496
  · rw [if_pos g, (or64_join 52 q s h0 (by omega) (by omega) (by omega) (by omega) (by omega)).2]
    congr 1; omega
  · rw [if_neg g, w64 (by omega) (by omega), wraps_u64 (e + 1075) (by omega) (by omega), wraps_u64 _ (by omega) (by omega), and52 h0 (by omega)]
    have hj : Go.bits .or .u64 s ((e + 1075) * 4503599627370496) = s + (e + 1075) * 4503599627370496 := (or64_join 63 ((e + 1075) * 4503599627370496) s (by omega) (by omega) (by omega) (by omega) (by omega) (by omega)).2
    rw [hj, (or64_join 52 (q % 4503599627370496) (s + (e + 1075) * 4503599627370496) (by omega) (by omega) (by omega) (by omega) (by omega) (by omega)).2]
    congr 1; omega
theorem j6_ev (neg : Bool) (mode : Int) {q e : Int} (fl : Int) (h0 : 0 ≤ q) (h1 : q < 9007199254740992) (h2 : -1074 ≤ e) (hc : 4503599627370496 ≤ q ∨ e = -1074) (x : Bool)
    (hx : x = decide (9218868437227405312 ≤ q + (e + 1074) * 4503599627370496)) :
    Ev (fun k => parts_Round.j6 k neg mode e q fl x) (res neg mode (q + (e + 1074) * 4503599627370496) fl) := by
  unfold res
  by_cases g : 9218868437227405312 ≤ q + (e + 1074) * 4503599627370496
  · rw [if_pos g]
    refine Ev.step (f := fun k => (parts_over.f k neg mode).bind fun bt => some (bt.1, bt.2)) (fun k => ?_) (Ev.bind (over_ev neg mode) (Ev.now _))
    simp only [parts_Round.j6]
    rw [hx, decide_eq_true g, if_pos rfl]
  · rw [if_neg g]
    refine Ev.no (fun k => ?_)
    simp only [parts_Round.j6]
    rw [hx, decide_eq_false g, if_neg (by decide), put_eq neg h0 h1 h2 (by omega) hc]; rfl
theorem j5_ev (neg : Bool) (mode : Int) {q e : Int} (fl : Int) (h0 : 0 ≤ q) (h1 : q < 9007199254740992) (h2 : -1074 ≤ e) (h3 : e < 100000) (hc : 4503599627370496 ≤ q ∨ e = -1074) :
    Ev (fun k => parts_Round.j5 k neg mode e q fl) (res neg mode (q + (e + 1074) * 4503599627370496) fl) := by
  refine Ev.step (fun k => ?_) (j6_ev neg mode fl h0 h1 h2 hc _ rfl)
  simp only [parts_Round.j5]
  by_cases g : q ≥ 4503599627370496
  · rw [if_pos g, w64 (by omega) (by omega)]
    congr 1
    rw [Bool.eq_iff_iff, decide_eq_true_iff, decide_eq_true_iff]; omega
  · rw [if_neg g]
    congr 1
    rw [decide_eq_false]; omega
theorem j4_ev (neg : Bool) (mode : Int) {q e : Int} (fl : Int) (h0 : 0 ≤ q) (h1 : q ≤ 9007199254740992) (h2 : -1074 ≤ e) (h3 : e < 90000) (hc : 4503599627370496 ≤ q ∨ e = -1074) :
    Ev (fun k => parts_Round.j4 k neg mode e q fl) (res neg mode (q + (e + 1074) * 4503599627370496) fl) := by
  by_cases g : q = 9007199254740992
  · have := j5_ev neg mode (q := 4503599627370496) (e := e + 1) fl (by omega) (by omega) (by omega) (by omega) (Or.inl (by omega))
    rw [show 4503599627370496 + (e + 1 + 1074) * 4503599627370496 = q + (e + 1074) * 4503599627370496 by omega] at this
    refine Ev.step (fun k => ?_) this
    simp only [parts_Round.j4]
    rw [if_pos g, w64 (by omega) (by omega)]
  · refine Ev.step (fun k => ?_) (j5_ev neg mode fl h0 (by omega) h2 (by omega) hc)
    simp only [parts_Round.j4]
    rw [if_neg g]
theorem j3_ev (neg : Bool) (mode : Int) {q e : Int} (half rest : Bool) (fl : Int) (h0 : 0 ≤ q) (h1 : q < 9007199254740992) (h2 : -1074 ≤ e) (h3 : e < 90000) (hc : 4503599627370496 ≤ q ∨ e = -1074) :
    Ev (fun k => parts_Round.j3 k neg mode e q half rest fl) (res neg mode (q + (e + 1074) * 4503599627370496 + (if upP neg (q + (e + 1074) * 4503599627370496) half rest mode then 1 else 0)) fl) := by
  have hu : upP neg (q + (e + 1074) * 4503599627370496) half rest mode = upP neg q half rest mode := by
    unfold upP
    rw [show (q + (e + 1074) * 4503599627370496) % 2 = q % 2 by omega]
  rw [hu]
  by_cases g : upP neg q half rest mode = true
  · have := j4_ev neg mode (q := q + 1) (e := e) fl (by omega) (by omega) h2 h3 (by omega)
    rw [show q + 1 + (e + 1074) * 4503599627370496 = q + (e + 1074) * 4503599627370496 + 1 by omega] at this
    rw [if_pos g]
    refine Ev.step (fun k => ?_) this
    simp only [parts_Round.j3]
    rw [up_eq neg h0 (by omega)]
    simp only [Option.bind_some]
    rw [if_pos g, wraps_u64 _ (by omega) (by omega)]
  · rw [if_neg g, Int.add_zero]
    refine Ev.step (fun k => ?_) (j4_ev neg mode fl h0 (by omega) h2 h3 hc)
    simp only [parts_Round.j3]
    rw [up_eq neg h0 (by omega)]
    simp only [Option.bind_some]
    rw [if_neg g]
theorem j1_ev (neg : Bool) (mode x : Int) (n : Nat) {q e : Int} (half rest : Bool) (h0 : 0 ≤ q) (h1 : q < 9007199254740992) (h2 : -1074 ≤ e) (h3 : e < 90000) (hc : 4503599627370496 ≤ q ∨ e = -1074)
    (hx : -100000 < x) (hx' : x < 100000) (hn : n < 100000) :
    Ev (fun k => parts_Round.j1 k neg x mode n e q half rest) (fin neg (q + (e + 1074) * 4503599627370496) half rest (decide (x + n < -1021)) mode) := by
  have hf : ∀ fl, Ev (fun k => parts_Round.j3 k neg mode e q half rest fl) (res neg mode (q + (e + 1074) * 4503599627370496 + (if upP neg (q + (e + 1074) * 4503599627370496) half rest mode then 1 else 0)) fl) := fun fl => j3_ev neg mode half rest fl h0 h1 h2 h3 hc
  have hw : wrap64 (wrap64 (x + n) - 1) = x + n - 1 := by rw [w64 (x := x + n) (by omega) (by omega), w64 (by omega) (by omega)]
  have hj : ∀ y : Bool, Ev (fun k => parts_Round.j2 k neg x mode n e q half rest 0 y) (res neg mode (q + (e + 1074) * 4503599627370496 + (if upP neg (q + (e + 1074) * 4503599627370496) half rest mode then 1 else 0)) (if y = true then (if decide (x + n < -1021) = true then 24 else 16) else 0)) := by
    intro y
    refine Ev.step (fun k => ?_) (hf _)
    simp only [parts_Round.j2]
    rw [hw]
    by_cases hy : y = true
    · rw [if_pos hy, if_pos hy]
      by_cases ht : x + n < -1021
      · rw [if_pos (show x + n - 1 < -1022 by omega), if_pos (decide_eq_true ht)]; rfl
      · rw [if_neg (show ¬ x + n - 1 < -1022 by omega), if_neg (by rw [decide_eq_true_iff]; exact ht)]
    · rw [if_neg hy, if_neg hy]
  refine Ev.step (fun k => ?_) (hj (half || rest))
  simp only [parts_Round.j1]
  cases half
  · rw [if_neg (by decide)]; rfl
  · rw [if_pos rfl]; rfl
theorem eP_bd (n : Nat) (x : Int) : eP n x = x + n - 53 ∨ eP n x = -1074 := by unfold eP mx; split <;> omega
theorem eP_ge (n : Nat) (x : Int) : x + n - 53 ≤ eP n x ∧ -1074 ≤ eP n x := by unfold eP mx; split <;> omega
theorem cutP_bd {W : Nat} (hW : W ≠ 0) (x : Int) :
    (cutP W (eP (bl W) x - x)).1 < 9007199254740992 ∧ (4503599627370496 ≤ (cutP W (eP (bl W) x - x)).1 ∨ eP (bl W) x = -1074) := by
  have h1 := lt_bl W
  have h2 := le_bl hW
  have h3 : 1 ≤ bl W := by rw [bl_pos hW]; omega
  have he := eP_bd (bl W) x
  have hg := eP_ge (bl W) x
  generalize eP (bl W) x = e at *
  generalize bl W = n at *
  unfold cutP
  by_cases g : e - x ≤ 0
  · rw [if_pos g]
    obtain ⟨d, hd⟩ : ∃ d : Nat, -(e - x) = (d : Int) := ⟨(-(e - x)).toNat, by omega⟩
    rw [hd, Int.toNat_natCast]
    have hp : 0 < 2 ^ d := Nat.pow_pos (by omega)
    constructor
    · show W * 2 ^ d < 9007199254740992
      refine Nat.lt_of_lt_of_le ((Nat.mul_lt_mul_right hp).2 h1) ?_
      rw [← Nat.pow_add]
      exact Nat.pow_le_pow_right (show 2 > 0 by omega) (show n + d ≤ 53 by omega)
    · rcases he with he | he
      · left
        show 4503599627370496 ≤ W * 2 ^ d
        refine Nat.le_trans ?_ (Nat.mul_le_mul_right _ h2)
        rw [← Nat.pow_add]
        exact Nat.pow_le_pow_right (show 2 > 0 by omega) (show 52 ≤ n - 1 + d by omega)
      · right; exact he
  · rw [if_neg g]
    obtain ⟨d, hd⟩ : ∃ d : Nat, (e - x) = (d : Int) := ⟨(e - x).toNat, by omega⟩
    rw [hd, Int.toNat_natCast]
    have hp : 0 < 2 ^ d := Nat.pow_pos (by omega)
    constructor
    · show W / 2 ^ d < 9007199254740992
      refine Nat.div_lt_of_lt_mul (Nat.lt_of_lt_of_le h1 ?_)
      rw [show (9007199254740992 : Nat) = 2 ^ 53 by decide, ← Nat.pow_add]
      exact Nat.pow_le_pow_right (by omega) (by omega)
    · rcases he with he | he
      · left
        show 4503599627370496 ≤ W / 2 ^ d
        refine (Nat.le_div_iff_mul_le hp).2 (Nat.le_trans ?_ h2)
        rw [show (4503599627370496 : Nat) = 2 ^ 52 by decide, ← Nat.pow_add]
        exact Nat.pow_le_pow_right (by omega) (by omega)
      · right; exact he
theorem cutP_ev {h l W : Nat} (e0 : h * 18446744073709551616 + l = W) (hh : h < 18446744073709551616) (hl : l < 18446744073709551616) (hW : W ≠ 0) {x : Int} (hx : -16384 ≤ x) (hx' : x ≤ 16384) :
    Ev (fun k => parts_wide_cut.f k h l (eP (bl W) x - x)) (((cutP W (eP (bl W) x - x)).1 : Int), (cutP W (eP (bl W) x - x)).2.1, (cutP W (eP (bl W) x - x)).2.2) := by
  have hb := (cutP_bd hW x).1
  have h3 : bl W ≤ 128 := bl_le (show W < 2 ^ 128 by omega)
  have h4 : 1 ≤ bl W := by rw [bl_pos hW]; omega
  have he := eP_bd (bl W) x
  have hg := eP_ge (bl W) x
  generalize eP (bl W) x = e at *
  generalize bl W = n at *
  unfold cutP at hb ⊢
  by_cases g : e - x ≤ 0
  · obtain ⟨d, hd⟩ : ∃ d : Nat, e - x = -(d : Int) := ⟨(-(e - x)).toNat, by omega⟩
    rw [if_pos g] at hb ⊢
    rw [hd, Int.neg_neg, Int.toNat_natCast] at hb
    rw [hd, Int.neg_neg, Int.toNat_natCast]
    refine Ev.congr (fun k => ?_) (Ev.now _)
    have hb' : W * 2 ^ d < 9007199254740992 := hb
    have hd' : d ≤ 64 := by omega
    subst e0
    exact cut_neg rfl k hl hd' (Nat.lt_trans hb' (by omega))
  · obtain ⟨d, hd⟩ : ∃ d : Nat, (e - x) = (d : Int) := ⟨(e - x).toNat, by omega⟩
    rw [if_neg g] at hb ⊢
    rw [hd, Int.toNat_natCast] at hb
    rw [hd, Int.toNat_natCast]
    have hb' : W / 2 ^ d < 9007199254740992 := hb
    have := cut_pos e0 hh hl (d := d) (by omega) (by omega)
    rw [Nat.mod_eq_of_lt (Nat.lt_trans hb' (by omega))] at this
    exact this
theorem round_ev (neg : Bool) {h l W : Nat} (e0 : h * 18446744073709551616 + l = W) (hh : h < 18446744073709551616) (hl : l < 18446744073709551616) (x0 : Int) (more : Bool) (mode : Int) :
    Ev (fun k => parts_Round.f k neg h l x0 more mode) (roundP neg W x0 more mode) := by
  have hlen := wlen hh hl
  rw [e0] at hlen
  unfold roundP
  by_cases hW : W = 0
  · subst hW
    rw [if_pos rfl]
    refine Ev.congr (fun k => ?_) (Ev.now _)
    unfold parts_Round.f
    rw [hlen, bl_zero]
    simp only [Option.bind_some]
    rw [if_pos (by rfl), zero_sgn]; rfl
  rw [if_neg hW]
  obtain ⟨hx, hx'⟩ := clamp_bd x0
  have h3 : bl W ≤ 128 := bl_le (show W < 2 ^ 128 by omega)
  have h4 : 1 ≤ bl W := by rw [bl_pos hW]; omega
  have hj : ∀ y : Bool, Ev (fun k => parts_Round.j0 k neg (clampP x0) y mode (bl W : Int) h l) (fin neg (((cutP W (eP (bl W) (clampP x0) - clampP x0)).1 : Int) + (eP (bl W) (clampP x0) + 1074) * 4503599627370496) (cutP W (eP (bl W) (clampP x0) - clampP x0)).2.1 ((cutP W (eP (bl W) (clampP x0) - clampP x0)).2.2 || y) (decide (clampP x0 + bl W < -1021)) mode) := by
    intro y
    have hc := cutP_ev e0 hh hl hW hx hx'
    have hb := cutP_bd hW (clampP x0)
    have he := eP_bd (bl W) (clampP x0)
    have hg := eP_ge (bl W) (clampP x0)
    have hw : mx (wrap64 (wrap64 (wrap64 (clampP x0 + (bl W : Int)) - 1) - 52)) (-1074) = eP (bl W) (clampP x0) := by
      rw [w64 (x := clampP x0 + (bl W : Int)) (by omega) (by omega), w64 (x := clampP x0 + (bl W : Int) - 1) (by omega) (by omega), w64 (by omega) (by omega)]
      unfold eP; congr 1; omega
    generalize cutP W (eP (bl W) (clampP x0) - clampP x0) = c at *
    generalize eP (bl W) (clampP x0) = e at *
    generalize clampP x0 = x at *
    generalize bl W = n at *
    refine Ev.step (f := fun k => (parts_wide_cut.f k h l (e - x)).bind fun bt126 => (if bt126.2.2 = true then (parts_Round.j1 k neg x mode n e bt126.1 bt126.2.1 true) else (parts_Round.j1 k neg x mode n e bt126.1 bt126.2.1 y))) (fun k => ?_) (Ev.bind hc ?_)
    · simp only [parts_Round.j0]
      rw [hw, w64 (x := e - x) (by omega) (by omega)]
    · have hf : ∀ r : Bool, Ev (fun k => parts_Round.j1 k neg x mode n e (c.1 : Int) c.2.1 r) (fin neg ((c.1 : Int) + (e + 1074) * 4503599627370496) c.2.1 r (decide (x + n < -1021)) mode) := fun r => by
        have h5 : 4503599627370496 ≤ (c.1 : Int) ∨ e = -1074 := by omega
        have h6 : (c.1 : Int) < 9007199254740992 := by omega
        exact j1_ev neg mode x n c.2.1 r (Int.natCast_nonneg _) h6 (by omega) (by omega) h5 (by omega) (by omega) (by omega)
      by_cases g : c.2.2 = true
      · simp only [if_pos g]
        rw [show (c.2.2 || y) = true by rw [g]; rfl]
        exact hf true
      · simp only [if_neg g]
        rw [show (c.2.2 || y) = y by rw [Bool.not_eq_true] at g; rw [g]; rfl]
        exact hf y
  refine Ev.congr (f := fun k => parts_Round.j0 k neg (clampP x0) (more && (decide (55 ≤ bl W) || decide (clampP x0 ≤ -1080))) mode (bl W : Int) h l) (fun k => ?_) (hj _)
  unfold parts_Round.f
  rw [hlen]
  simp only [Option.bind_some]
  rw [if_neg (by omega)]
  change (if more = true then (if (bl W : Int) ≥ 55 then parts_Round.j0 k neg (clampP x0) true mode (bl W : Int) h l else parts_Round.j0 k neg (clampP x0) (decide (clampP x0 ≤ -1080)) mode (bl W : Int) h l) else parts_Round.j0 k neg (clampP x0) false mode (bl W : Int) h l) = _
  generalize clampP x0 = x at *
  generalize bl W = n at *
  cases more
  · rw [if_neg (by decide)]; rfl
  · rw [if_pos rfl]
    by_cases g : (55 : Nat) ≤ n
    · rw [if_pos (show (n : Int) ≥ 55 by omega), decide_eq_true g]; rfl
    · rw [if_neg (show ¬ (n : Int) ≥ 55 by omega), decide_eq_false g]; rfl
theorem wide_eq {h l : Int} (h0 : (Lit.int .u64 h).wf = true) (l0 : (Lit.int .u64 l).wf = true) (neg : Bool) (x : Int) (more : Bool) (mode : Int) :
    Ev (fun k => parts_Round.f k neg h l x more mode) (roundP neg (h.toNat * 18446744073709551616 + l.toNat) x more mode) := by
  obtain ⟨h1, h2⟩ := u64_bd h0
  obtain ⟨l1, l2⟩ := u64_bd l0
  have := round_ev neg (h := h.toNat) (l := l.toNat) rfl (by omega) (by omega) x more mode
  rwa [Int.toNat_of_nonneg h1, Int.toNat_of_nonneg l1] at this
theorem modes_fin (C : Int) (h0 : 0 ≤ C) (half rest tiny : Bool) :
    (fin false C half rest tiny 4).1 ≤ (fin false C half rest tiny 3).1 ∧ (fin false C half rest tiny 3).1 - (fin false C half rest tiny 4).1 ≤ 1 ∧ 0 ≤ (fin false C half rest tiny 4).1 ∧ (fin false C half rest tiny 3).1 ≤ 9218868437227405312
    ∧ (fin false C half rest tiny 2).1 = (fin false C half rest tiny 4).1
    ∧ ((fin false C half rest tiny 0).1 = (fin false C half rest tiny 4).1 ∨ (fin false C half rest tiny 0).1 = (fin false C half rest tiny 3).1)
    ∧ ((fin false C half rest tiny 1).1 = (fin false C half rest tiny 4).1 ∨ (fin false C half rest tiny 1).1 = (fin false C half rest tiny 3).1)
    ∧ (fin false C half rest tiny 0).1 ≤ (fin false C half rest tiny 1).1
    ∧ (fin true C half rest tiny 3).1 = (fin false C half rest tiny 4).1 + 9223372036854775808
    ∧ ((fin false C half rest tiny 4).2 = (fin false C half rest tiny 3).2 ∨ (fin false C half rest tiny 4).1 ≠ (fin false C half rest tiny 3).1) := by
  have h1 : (9218868437227405312 ≤ C ∧ 9218868437227405312 ≤ C + 1) ∨ (¬ 9218868437227405312 ≤ C ∧ 9218868437227405312 ≤ C + 1) ∨ (¬ 9218868437227405312 ≤ C ∧ ¬ 9218868437227405312 ≤ C + 1) := by omega
  cases half <;> cases rest <;> simp only [fin, res, upP, farP, sgn] <;> generalize (if tiny = true then (24 : Int) else 16) = fl <;> rcases h1 with ⟨g1, g2⟩ | ⟨g1, g2⟩ | ⟨g1, g2⟩ <;> by_cases hp : C % 2 = 1 <;> simp [hp, g1, g2] <;> omega
theorem modes_round (W : Nat) (x : Int) :
    (roundP false W x false 4).1 ≤ (roundP false W x false 3).1 ∧ (roundP false W x false 3).1 - (roundP false W x false 4).1 ≤ 1 ∧ 0 ≤ (roundP false W x false 4).1 ∧ (roundP false W x false 3).1 ≤ 9218868437227405312
    ∧ (roundP false W x false 2).1 = (roundP false W x false 4).1
    ∧ ((roundP false W x false 0).1 = (roundP false W x false 4).1 ∨ (roundP false W x false 0).1 = (roundP false W x false 3).1)
    ∧ ((roundP false W x false 1).1 = (roundP false W x false 4).1 ∨ (roundP false W x false 1).1 = (roundP false W x false 3).1)
    ∧ (roundP false W x false 0).1 ≤ (roundP false W x false 1).1
    ∧ (roundP true W x false 3).1 = (roundP false W x false 4).1 + 9223372036854775808
    ∧ ((roundP false W x false 4).2 = (roundP false W x false 3).2 ∨ (roundP false W x false 4).1 ≠ (roundP false W x false 3).1) := by
  unfold roundP
  by_cases hW : W = 0
  · simp only [if_pos hW]; decide
  · simp only [if_neg hW]
    have := eP_ge (bl W) (clampP x)
    refine modes_fin _ ?_ _ _ _
    have := Int.natCast_nonneg (cutP W (eP (bl W) (clampP x) - clampP x)).1
    omega
theorem PartsModes : vernierlaw06_PartsModes.Pure := by
  intro h l x hh hl hx
  refine Ev.rounds ?_
  have M := modes_round (h.toNat * 18446744073709551616 + l.toNat) x
  have R := fun neg mode => wide_eq hh hl neg x false mode
  generalize h.toNat * 18446744073709551616 + l.toNat = W at *
  unfold vernierlaw06_PartsModes.f
  rw [show vernierlaw06_alive.f = some true by decide +kernel]
  simp only [Option.bind_some, if_true]
  refine Ev.bind (R false 4) ?_
  refine Ev.bind (R false 3) ?_
  refine Ev.bind (R false 2) ?_
  refine Ev.bind (R false 0) ?_
  refine Ev.bind (R false 1) ?_
  refine Ev.bind (R true 3) ?_
  clear R
  generalize roundP false W x false 4 = a at *
  generalize roundP false W x false 3 = b at *
  generalize roundP false W x false 2 = z at *
  generalize roundP false W x false 0 = n at *
  generalize roundP false W x false 1 = w at *
  generalize roundP true W x false 3 = c at *
  obtain ⟨m1, m2, m3, m4, m5, m6, m7, m8, m9, m10⟩ := M
  have hw1 : IntKind.u64.wrap (b.1 - a.1) = b.1 - a.1 := wraps_u64 _ (by omega) (by omega)
  have hw2 : IntKind.u64.wrap (a.1 + 9223372036854775808) = a.1 + 9223372036854775808 := wraps_u64 _ (by omega) (by omega)
  rw [hw1, hw2]
  refine Ev.congr (fun k => ?_) (Ev.now _)
  repeat' split
  all_goals first | rfl | (exfalso; omega) | (congr 1; rw [bne_iff_ne]; omega)
end Go.Proofs.Ytklkebbdjppnkaa.Pure
