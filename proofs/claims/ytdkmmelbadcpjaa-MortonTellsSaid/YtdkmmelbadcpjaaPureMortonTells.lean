/- MortonTells: interleaved bits, and any place's number, layouts' sides and sizes, are as the page says; apart the bits are again. For every input. -/
import Derived.Test.YtdkmmelbadcpjaaPMortonTellsx2
import Derived.Laws.BitsLemmas
import Derived.Laws.BitsAllLaws
namespace Go.Proofs.Ytdkmmelbadcpjaa.Pure
open Go.RowKit Go.Proofs.Ytdkmmelbadcpjaa.PMortonTells Go.Proofs.YtdkmmelbadcpjaaW.PrintWords Go.Proofs.YtdkmmelbadcpjaaW.PrintLast Go.Proofs.YtdkmmelbadcpjaaW.PrintMore
-- Whole numbers that fit; places in a matrix; lists made of a function.
theorem w64 {x : Int} (h0 : -9223372036854775808 ≤ x) (h1 : x < 9223372036854775808) : wrap64 x = x := by unfold wrap64; omega
theorem wN (n : Nat) (h : n < 9223372036854775808) : wrap64 (n : Int) = (n : Int) := w64 (by omega) (by omega)
theorem wmul (a b : Nat) (h : a * b < 9223372036854775808) : wrap64 ((a : Int) * (b : Int)) = ((a * b : Nat) : Int) := by rw [← Int.natCast_mul]; exact wN _ h
theorem wadd (a b : Nat) (h : a + b < 9223372036854775808) : wrap64 ((a : Int) + (b : Int)) = ((a + b : Nat) : Int) := by rw [← Int.natCast_add]; exact wN _ h
theorem wsucc (a : Nat) (h : a + 1 < 9223372036854775808) : wrap64 ((a : Int) + 1) = ((a + 1 : Nat) : Int) := wadd a 1 h
theorem place_lt {i j r c : Nat} (hi : i < r) (hj : j < c) : i * c + j < r * c := by
  have : (i + 1) * c ≤ r * c := Nat.mul_le_mul_right c hi
  rw [Nat.add_mul, Nat.one_mul] at this; omega
theorem place_div {i j c : Nat} (hj : j < c) : (i * c + j) / c = i := by
  rw [Nat.mul_comm, Nat.mul_add_div (by omega), Nat.div_eq_of_lt hj, Nat.add_zero]
theorem place_mod {i j c : Nat} (hj : j < c) : (i * c + j) % c = j := by
  rw [Nat.mul_comm, Nat.mul_add_mod, Nat.mod_eq_of_lt hj]
theorem place_of (k c : Nat) : k / c * c + k % c = k := by rw [Nat.mul_comm]; exact Nat.div_add_mod k c
theorem div_lt_of {k r c : Nat} (h : k < r * c) : k / c < r := Nat.div_lt_of_lt_mul (by rw [Nat.mul_comm]; exact h)
theorem mod_lt_of {k r c : Nat} (h : k < r * c) : k % c < c := Nat.mod_lt _ (by rcases Nat.eq_zero_or_pos c with rfl | h' <;> omega)
def mk (n : Nat) (f : Nat → Int) : List Int := (List.range n).map f
theorem mk_len (n : Nat) (f : Nat → Int) : (mk n f).length = n := by simp [mk]
theorem mk_get (n : Nat) (f : Nat → Int) (k : Nat) (h : k < n) : (mk n f).getD k 0 = f k := by
  simp [mk, List.getD_eq_getElem?_getD, h]
theorem rd_mk (n : Nat) (f : Nat → Int) (k : Nat) (h : k < n) : rd (mk n f) (k : Int) = f k := mk_get n f k h
theorem rd_nat (l : List Int) (k : Nat) : rd l (k : Int) = l.getD k 0 := rfl
theorem mk_congr {n : Nat} {f g : Nat → Int} (h : ∀ k, k < n → f k = g k) : mk n f = mk n g := List.map_congr_left (fun k hk => h k (List.mem_range.1 hk))
theorem mk_set (n : Nat) (f : Nat → Int) (p : Nat) (v : Int) : (mk n f).set p v = mk n (fun k => if k = p then v else f k) := by
  apply List.ext_getElem
  · simp [mk]
  · intro i h1 h2
    simp only [mk, List.length_set, List.length_map, List.length_range] at h1
    rw [List.getElem_set]
    simp only [mk, List.getElem_map, List.getElem_range]
    by_cases e : p = i
    · subst e; simp
    · rw [if_neg e, if_neg (fun h => e h.symm)]
theorem mk_const (n : Nat) (v : Int) : List.replicate n v = mk n (fun _ => v) := by
  apply List.ext_getElem
  · simp [mk]
  · intro i h1 h2; simp [mk]
theorem mk_self (l : List Int) : mk l.length (fun k => l.getD k 0) = l := by
  apply List.ext_getElem
  · simp [mk]
  · intro i h1 h2
    simp only [mk, List.getElem_map, List.getElem_range]
    rw [List.getD_eq_getElem?_getD, List.getElem?_eq_getElem h2]; rfl
theorem mk_eq {n : Nat} {f : Nat → Int} {l : List Int} (hl : l.length = n) (h : ∀ k, k < n → l.getD k 0 = f k) : l = mk n f := by
  subst hl
  exact (mk_self l).symm.trans (mk_congr h)
theorem Ev.no {α : Type} {g : Nat → Option α} {r : α} (h : ∀ k, g (k + 1) = some r) : Ev g r := Ev.step (f := fun _ => some r) h (Ev.now r)
-- Interleaved bits, plainly (no program in sight).
theorem wraps_i64 (n : Int) (h₀ : 0 ≤ n) (h₁ : n < 2 ^ 63) : IntKind.i64.wrap n = n := by rw [IntKind.wrap_i64]; omega
theorem and1_i64 (y : Int) : Go.bits .and .i64 y 1 = y % 2 := by
  have h1 : (BitVec.ofInt 64 (1 : Int)).toNat = 1 := by decide
  have h2 : ((BitVec.ofInt 64 y).toNat : Int) = y % 18446744073709551616 := by
    rw [BitVec.toNat_ofInt]; omega
  show IntKind.i64.wrap ((BitVec.ofInt 64 y &&& BitVec.ofInt 64 1).toNat : Int) = y % 2
  rw [BitVec.toNat_and, h1, Nat.and_one_is_mod, wraps_i64 _ (by omega) (by omega)]
  omega
theorem mod_mul (z a p : Int) (ha : 0 < a) (hp : 0 < p) : z % (a * p) = z % a + a * (z / a % p) := by
  have h1 := Int.mul_ediv_add_emod z a
  have h2 := Int.mul_ediv_add_emod (z / a) p
  have h3 : 0 ≤ z % a ∧ z % a < a := ⟨Int.emod_nonneg _ (by omega), Int.emod_lt_of_pos _ ha⟩
  have h4 : 0 ≤ z / a % p ∧ z / a % p < p := ⟨Int.emod_nonneg _ (by omega), Int.emod_lt_of_pos _ hp⟩
  have h5 : a * (z / a % p) ≤ a * (p - 1) := Int.mul_le_mul_of_nonneg_left (by omega) (by omega)
  have h6 : 0 ≤ a * (z / a % p) := Int.mul_nonneg (by omega) h4.1
  have h7 : a * (p - 1) = a * p - a := by rw [Int.mul_sub, Int.mul_one]
  have h8 : z = (z % a + a * (z / a % p)) + a * p * (z / a / p) := by
    rw [Int.mul_assoc, Int.add_assoc, ← Int.mul_add, Int.add_comm (z / a % p), h2]; omega
  rw [show z % (a * p) = ((z % a + a * (z / a % p)) + a * p * (z / a / p)) % (a * p) from by rw [← h8], Int.add_mul_emod_self_left]
  exact Int.emod_eq_of_lt (by omega) (by omega)
theorem or_i64 (a b : Int) (ha : 0 ≤ a) (ha' : a < 2 ^ 63) (hb : 0 ≤ b) (hb' : b < 2 ^ 63) : Go.bits .or .i64 a b = ((a.toNat ||| b.toNat : Nat) : Int) := by
  obtain ⟨a, rfl⟩ := Int.eq_ofNat_of_zero_le ha
  obtain ⟨b, rfl⟩ := Int.eq_ofNat_of_zero_le hb
  exact (bits_nat .i64 63 (by decide) wraps_i64 a b (by omega) (by omega)).2
/-- The low n bits, bit b at place 2b. -/
def S : Nat → Int → Int
  | 0, _ => 0
  | n + 1, x => x % 2 + 4 * S n (x / 2)
def L : Nat → Int → Int → Int
  | 0, _, _ => 0
  | n + 1, i, j => (j % 2 + 2 * (i % 2)) + 4 * L n (i / 2) (j / 2)
def G : Nat → Int → Int
  | 0, _ => 0
  | n + 1, z => z % 2 + 2 * G n (z / 4)
theorem S_bd (n : Nat) : ∀ x, 0 ≤ S n x ∧ 3 * S n x < 4 ^ n := by
  induction n with
  | zero => intro x; simp [S]
  | succ n ih => intro x; have := ih (x / 2); simp only [S, Int.pow_succ]; omega
theorem L_bd (n : Nat) : ∀ i j, 0 ≤ L n i j ∧ L n i j < 4 ^ n := by
  induction n with
  | zero => intro i j; simp [L]
  | succ n ih => intro i j; have := ih (i / 2) (j / 2); simp only [L, Int.pow_succ]; omega
theorem G_bd (n : Nat) : ∀ z, 0 ≤ G n z ∧ G n z < 2 ^ n := by
  induction n with
  | zero => intro z; simp [G]
  | succ n ih => intro z; have := ih (z / 4); simp only [G, Int.pow_succ]; omega
theorem div_pow (x : Int) (b : Nat) : x / 2 / 2 ^ b = x / 2 ^ (b + 1) := by
  rw [Int.ediv_ediv_of_nonneg (by omega), Int.pow_succ, Int.mul_comm]
theorem div_pow4 (x : Int) (b : Nat) : x / 4 / 4 ^ b = x / 4 ^ (b + 1) := by
  rw [Int.ediv_ediv_of_nonneg (by omega), Int.pow_succ, Int.mul_comm]
theorem S_step (b : Nat) : ∀ x, S (b + 1) x = S b x + (x / 2 ^ b) % 2 * 4 ^ b := by
  induction b with
  | zero => intro x; simp [S]
  | succ b ih =>
    intro x
    have h := ih (x / 2)
    rw [div_pow] at h
    show x % 2 + 4 * S (b + 1) (x / 2) = x % 2 + 4 * S b (x / 2) + _
    rw [h, Int.pow_succ 4 b]
    generalize (x / 2 ^ (b + 1)) % 2 = y
    generalize (4 : Int) ^ b = p
    rw [Int.mul_add, ← Int.add_assoc]; congr 1
    rw [Int.mul_comm p 4, Int.mul_left_comm]
theorem L_step (b : Nat) : ∀ i j, L (b + 1) i j = L b i j + ((j / 2 ^ b) % 2 + 2 * ((i / 2 ^ b) % 2)) * 4 ^ b := by
  induction b with
  | zero => intro i j; simp [L]
  | succ b ih =>
    intro i j
    have h := ih (i / 2) (j / 2)
    rw [div_pow, div_pow] at h
    show j % 2 + 2 * (i % 2) + 4 * L (b + 1) (i / 2) (j / 2) = j % 2 + 2 * (i % 2) + 4 * L b (i / 2) (j / 2) + _
    rw [h, Int.pow_succ 4 b]
    generalize ((j / 2 ^ (b + 1)) % 2 + 2 * ((i / 2 ^ (b + 1)) % 2)) = y
    generalize (4 : Int) ^ b = p
    rw [Int.mul_add, ← Int.add_assoc]; congr 1
    rw [Int.mul_comm p 4, Int.mul_left_comm]
theorem G_step (b : Nat) : ∀ z, G (b + 1) z = G b z + (z / 4 ^ b) % 2 * 2 ^ b := by
  induction b with
  | zero => intro x; simp [G]
  | succ b ih =>
    intro x
    have h := ih (x / 4)
    rw [div_pow4] at h
    show x % 2 + 2 * G (b + 1) (x / 4) = x % 2 + 2 * G b (x / 4) + _
    rw [h, Int.pow_succ 2 b]
    generalize (x / 4 ^ (b + 1)) % 2 = y
    generalize (2 : Int) ^ b = p
    rw [Int.mul_add, ← Int.add_assoc]; congr 1
    rw [Int.mul_comm p 2, Int.mul_left_comm]
theorem L_G (n : Nat) : ∀ z, L n (G n (z / 2)) (G n z) = z % 4 ^ n := by
  induction n with
  | zero => intro z; simp [L]
  | succ n ih =>
    intro z
    have e1 : G (n + 1) (z / 2) % 2 = z / 2 % 2 := by simp only [G]; omega
    have e2 : G (n + 1) (z / 2) / 2 = G n (z / 4 / 2) := by simp only [G]; rw [show z / 2 / 4 = z / 4 / 2 by omega]; omega
    have e3 : G (n + 1) z % 2 = z % 2 := by simp only [G]; omega
    have e4 : G (n + 1) z / 2 = G n (z / 4) := by simp only [G]; omega
    simp only [L]
    rw [e1, e2, e3, e4, ih (z / 4)]
    have hp : (0 : Int) < 4 ^ n := Int.pow_pos (by omega)
    have h5 : z % 4 ^ (n + 1) = z % 4 + 4 * (z / 4 % 4 ^ n) := by
      rw [Int.pow_succ, Int.mul_comm, mod_mul _ _ _ (by omega) hp]
    rw [h5]; omega
theorem G_L (n : Nat) : ∀ i j, G n (L n i j) = j % 2 ^ n ∧ G n (L n i j / 2) = i % 2 ^ n := by
  induction n with
  | zero => intro i j; simp [G]
  | succ n ih =>
    intro i j
    obtain ⟨h1, h2⟩ := ih (i / 2) (j / 2)
    have e1 : L (n + 1) i j % 2 = j % 2 := by simp only [L]; omega
    have e2 : L (n + 1) i j / 4 = L n (i / 2) (j / 2) := by simp only [L]; omega
    have e3 : L (n + 1) i j / 2 % 2 = i % 2 := by simp only [L]; omega
    have e4 : L (n + 1) i j / 2 / 4 = L n (i / 2) (j / 2) / 2 := by simp only [L]; omega
    have hp : (0 : Int) < 2 ^ n := Int.pow_pos (by omega)
    constructor
    · simp only [G]; rw [e1, e2, h1, Int.pow_succ, Int.mul_comm _ 2, mod_mul _ _ _ (by omega) hp]
    · simp only [G]; rw [e3, e4, h2, Int.pow_succ, Int.mul_comm _ 2, mod_mul _ _ _ (by omega) hp]
theorem or4 (a b s t : Nat) (hs : s < 2) (ht : t < 2) : (4 * a + s) ||| (4 * b + 2 * t) = 4 * (a ||| b) + (s + 2 * t) := by
  apply Nat.eq_of_testBit_eq
  intro k
  have c : ∀ (x r : Nat), r < 4 → (4 * x + r).testBit k = if k < 2 then r.testBit k else x.testBit (k - 2) := fun x r hr => by
    have := Nat.testBit_two_pow_mul_add x (i := 2) (b := r) (by simpa using hr) k
    simpa using this
  rw [Nat.testBit_or, c _ _ (by omega), c _ _ (by omega), c _ _ (by omega), Nat.testBit_or]
  split
  · obtain rfl | rfl : s = 0 ∨ s = 1 := by omega
    all_goals obtain rfl | rfl : t = 0 ∨ t = 1 := by omega
    all_goals obtain rfl | rfl : k = 0 ∨ k = 1 := by omega
    all_goals decide
  · rfl
theorem or_S (n : Nat) : ∀ i j, (S n j).toNat ||| (2 * S n i).toNat = (L n i j).toNat := by
  induction n with
  | zero => intro i j; simp [S, L]
  | succ n ih =>
    intro i j
    have h := ih (i / 2) (j / 2)
    have b1 := S_bd n (i / 2)
    have b2 := S_bd n (j / 2)
    have b3 := L_bd n (i / 2) (j / 2)
    simp only [S, L]
    have e1 : (j % 2 + 4 * S n (j / 2)).toNat = 4 * (S n (j / 2)).toNat + (j % 2).toNat := by omega
    have e2 : (2 * (i % 2 + 4 * S n (i / 2))).toNat = 4 * (2 * S n (i / 2)).toNat + 2 * (i % 2).toNat := by omega
    rw [e1, e2, or4 _ _ _ _ (by omega) (by omega), h]
    omega
-- What the printed functions of the package morton come to.
theorem p4 (b : Nat) : (0 : Int) < 4 ^ b := Int.pow_pos (by omega)
theorem p2 (b : Nat) : (0 : Int) < 2 ^ b := Int.pow_pos (by omega)
theorem p22 (b : Nat) : (2 : Int) ^ (2 * b) = 4 ^ b := by rw [Int.pow_mul]; rfl
theorem p4_le {b : Nat} (h : b ≤ 15) : (4 : Int) ^ b ≤ 1073741824 := by
  have := Nat.pow_le_pow_right (n := 4) (by omega) h
  have h2 : ((4 ^ b : Nat) : Int) ≤ ((4 ^ 15 : Nat) : Int) := by exact_mod_cast this
  simpa using h2
theorem p2_le {b : Nat} (h : b ≤ 15) : (2 : Int) ^ b ≤ 32768 := by
  have := Nat.pow_le_pow_right (n := 2) (by omega) h
  have h2 : ((2 ^ b : Nat) : Int) ≤ ((2 ^ 15 : Nat) : Int) := by exact_mod_cast this
  simpa using h2
theorem or_join (i : Nat) (y x : Int) (hy : 0 ≤ y) (hy' : y < 2 ^ i) (hx : 0 ≤ x) (hx' : x % 2 ^ i = 0) (h1 : y < 2 ^ 63) (h2 : x < 2 ^ 63) : Go.bits .or .i64 y x = y + x := by
  have h := bits_join .i64 63 (by decide) wraps_i64 i x y hx hx' h2 hy hy' h1
  rw [or_i64 _ _ hx h2 hy h1] at h
  rw [or_i64 _ _ hy h1 hx h2, Nat.or_comm, h]; omega
theorem shr_at (n : Int) (b : Nat) (h : b ≤ 64) : shr .i64 n (b : Int) = n / 2 ^ b := by
  unfold shr; rw [Nat.min_eq_left (by show b ≤ 64; exact h)]; rfl
theorem shl_at (y : Int) (b : Nat) (h : b ≤ 64) (h0 : 0 ≤ y * 2 ^ b) (h1 : y * 2 ^ b < 2 ^ 63) : shl .i64 y (b : Int) = y * 2 ^ b := by
  unfold shl; rw [Nat.min_eq_left (by show b ≤ 64; exact h)]; exact wraps_i64 _ h0 h1
theorem spread_l (n : Int) (d : Nat) : ∀ b : Nat, b + d = 16 → Ev (fun k => morton_spread.l0 k n (S b n) b) (S 16 n) := by
  induction d with
  | zero =>
    intro b hb
    obtain rfl : b = 16 := by omega
    refine Ev.step (f := fun _ => some (S 16 n)) (fun k => ?_) (Ev.now _)
    simp only [morton_spread.l0]; rw [if_neg (by omega)]
  | succ d ih =>
    intro b hb
    have hb15 : b ≤ 15 := by omega
    refine Ev.step (f := fun k => morton_spread.l0 k n (S (b + 1) n) ((b + 1 : Nat) : Int)) (fun k => ?_) (ih (b + 1) (by omega))
    have h1 := p4 b
    have h2 := p4_le hb15
    have h3 := S_bd b n
    have e1 : wrap64 (2 * (b : Int)) = ((2 * b : Nat) : Int) := by rw [w64 (by omega) (by omega)]; omega
    have e2 : wrap64 ((b : Int) + 1) = ((b + 1 : Nat) : Int) := by rw [w64 (by omega) (by omega)]; omega
    have e3 : n / 2 ^ b % 2 = 0 ∨ n / 2 ^ b % 2 = 1 := by omega
    have e4 : n / 2 ^ b % 2 * 4 ^ b = 0 ∨ n / 2 ^ b % 2 * 4 ^ b = 4 ^ b := by rcases e3 with e | e <;> simp [e]
    simp only [morton_spread.l0]
    rw [if_pos (by omega), if_pos (by omega), e1, if_pos (by omega), shr_at _ _ (by omega), and1_i64, e2, S_step]
    rw [shl_at _ _ (by omega) (by rw [p22]; omega) (by rw [p22]; omega), p22]
    rw [or_join (2 * b) _ _ h3.1 (by rw [p22]; omega) (by omega) (by rw [p22]; exact Int.mul_emod_left _ _) (by omega) (by omega)]
theorem spread_ev (n : Int) : Ev (fun k => morton_spread.f k n) (S 16 n) := spread_l n 16 0 rfl
theorem inter_ev (i j : Int) : Ev (fun k => morton_Interleave.f k i j) (L 16 i j) := by
  refine Ev.bind (spread_ev j) (Ev.bind (f := fun _ t => some (Go.bits .or .i64 (S 16 j) (wrap64 (t * 2)))) (spread_ev i) ?_)
  have h1 := S_bd 16 i
  have h2 := S_bd 16 j
  have h3 := L_bd 16 i j
  have h4 := or_S 16 i j
  rw [show (4 : Int) ^ 16 = 4294967296 by decide] at h1 h2 h3
  rw [w64 (by omega) (by omega), or_i64 _ _ h2.1 (by omega) (by omega) (by omega), Int.mul_comm _ 2, h4, Int.toNat_of_nonneg h3.1]
  exact Ev.now _
/-- A place's number. -/
def idx (i j t : Int) : Int := L 16 (i / t) (j / t) * t * t + i % t * t + j % t
theorem eight {t : Int} (h1 : 1 ≤ t) (h8 : t ≤ 8) : t = 1 ∨ t = 2 ∨ t = 3 ∨ t = 4 ∨ t = 5 ∨ t = 6 ∨ t = 7 ∨ t = 8 := by omega
theorem idx_wrap (l i j t : Int) (hl0 : 0 ≤ l) (hl : l < 4294967296) (hi : 0 ≤ i) (hj : 0 ≤ j) (h1 : 1 ≤ t) (h8 : t ≤ 8) :
    wrap64 ((wrap64 ((wrap64 ((wrap64 (l * t)) * t)) + (wrap64 ((Int.tmod i t) * t)))) + (Int.tmod j t)) = l * t * t + i % t * t + j % t := by
  rw [Int.tmod_eq_emod_of_nonneg hi, Int.tmod_eq_emod_of_nonneg hj]
  rcases eight h1 h8 with rfl | rfl | rfl | rfl | rfl | rfl | rfl | rfl
  all_goals
    rw [w64 (x := l * _) (by omega) (by omega), w64 (x := l * _ * _) (by omega) (by omega), w64 (x := i % _ * _) (by omega) (by omega), w64 (x := _ + _ * _) (by omega) (by omega), w64 (by omega) (by omega)]
theorem tdiv_at {i t : Int} (hi : 0 ≤ i) (hi' : i < 9223372036854775808) (h1 : 1 ≤ t) : wrap64 (Int.tdiv i t) = i / t := by
  rw [Int.tdiv_eq_ediv_of_nonneg hi]
  have h2 : 0 ≤ i / t := Int.ediv_nonneg hi (by omega)
  have h3 : i / t ≤ i := Int.ediv_le_self _ hi
  exact w64 (by omega) (by omega)
theorem index_ev (i j t : Int) (hi : 0 ≤ i) (hi' : i < 65536) (hj : 0 ≤ j) (hj' : j < 65536) (h1 : 1 ≤ t) (h8 : t ≤ 8) : Ev (fun k => morton_Index.f k i j t) (idx i j t) := by
  refine Ev.congr (f := fun k => (morton_Interleave.f k (i / t) (j / t)).bind fun l => some (wrap64 ((wrap64 ((wrap64 ((wrap64 (l * t)) * t)) + (wrap64 ((Int.tmod i t) * t)))) + (Int.tmod j t)))) (fun k => ?_) ?_
  · unfold morton_Index.f
    rw [if_neg (by omega), if_neg (by omega), if_neg (by omega), if_neg (by omega), if_neg (by omega), if_neg (by omega), if_neg (by omega), tdiv_at hi (by omega) h1, tdiv_at hj (by omega) h1]
  · refine Ev.bind (inter_ev _ _) ?_
    have h3 := L_bd 16 (i / t) (j / t)
    rw [show (4 : Int) ^ 16 = 4294967296 by decide] at h3
    rw [idx_wrap _ _ _ _ h3.1 h3.2 hi hj h1 h8]
    exact Ev.now _
theorem index_out (i j t : Int) (h : i < 0 ∨ 65536 ≤ i ∨ j < 0 ∨ 65536 ≤ j ∨ t < 1 ∨ 8 < t) : Ev (fun k => morton_Index.f k i j t) (-1) := by
  refine Ev.congr (f := fun _ => some (-1)) (fun k => ?_) (Ev.now _)
  unfold morton_Index.f
  by_cases a : i < 0
  · rw [if_pos a]
  rw [if_neg a]
  by_cases a : i ≥ 65536
  · rw [if_pos a]
  rw [if_neg a]
  by_cases a : j < 0
  · rw [if_pos a]
  rw [if_neg a]
  by_cases a : j ≥ 65536
  · rw [if_pos a]
  rw [if_neg a]
  by_cases a : t < 1
  · rw [if_pos a]
  rw [if_neg a, if_pos (by omega)]
theorem alive16 : Ev (fun k => vernierlaw16_alive.f k) true := by
  refine Ev.bind (inter_ev 1 1) ?_
  rw [show L 16 1 1 = 3 by decide +kernel]
  simp only [if_true]
  refine Ev.bind (f := fun _ t => some (t == 1)) (index_ev 0 1 1 (by omega) (by omega) (by omega) (by omega) (by omega) (by omega)) ?_
  rw [show idx 0 1 1 = 1 by decide +kernel]
  exact Ev.now _
theorem L_inj {i j k l : Int} (hi : 0 ≤ i) (hi' : i < 65536) (hj : 0 ≤ j) (hj' : j < 65536) (hk : 0 ≤ k) (hk' : k < 65536) (hl : 0 ≤ l) (hl' : l < 65536) (h : L 16 i j = L 16 k l) : i = k ∧ j = l := by
  have h1 := G_L 16 i j
  have h2 := G_L 16 k l
  rw [h] at h1
  rw [show (2 : Int) ^ 16 = 65536 by decide] at h1 h2
  omega
theorem idx_inj {i j k l t : Int} (hi : 0 ≤ i) (hi' : i < 65536) (hj : 0 ≤ j) (hj' : j < 65536) (hk : 0 ≤ k) (hk' : k < 65536) (hl : 0 ≤ l) (hl' : l < 65536) (h1 : 1 ≤ t) (h8 : t ≤ 8) (h : idx i j t = idx k l t) : i = k ∧ j = l := by
  have c := @L_inj (i / t) (j / t) (k / t) (l / t)
  unfold idx at h
  generalize L 16 (i / t) (j / t) = x at *
  generalize L 16 (k / t) (l / t) = y at *
  rcases eight h1 h8 with rfl | rfl | rfl | rfl | rfl | rfl | rfl | rfl
  all_goals
    have := c (by omega) (by omega) (by omega) (by omega) (by omega) (by omega) (by omega) (by omega) (by omega)
    omega
theorem L_small (n : Nat) : ∀ (e : Nat) (i j : Int), 0 ≤ i → i < 2 ^ e → 0 ≤ j → j < 2 ^ e → L n i j < 4 ^ e := by
  induction n with
  | zero => intro e i j _ _ _ _; have := p4 e; simpa [L] using this
  | succ n ih =>
    intro e i j hi hi' hj hj'
    cases e with
    | zero =>
      have := ih 0 0 0 (by omega) (by omega) (by omega) (by omega)
      obtain rfl : i = 0 := by omega
      obtain rfl : j = 0 := by omega
      simp only [L]; simp at this ⊢; omega
    | succ e =>
      have := ih e (i / 2) (j / 2) (by omega) (by rw [Int.pow_succ] at hi'; omega) (by omega) (by rw [Int.pow_succ] at hj'; omega)
      simp only [L, Int.pow_succ]; omega
theorem idx_bd (s i j t : Int) (e : Nat) (hs : s = 2 ^ e) (hi : 0 ≤ i) (hj : 0 ≤ j) (h1 : 1 ≤ t) (h8 : t ≤ 8) (his : i < s * t) (hjs : j < s * t) : 0 ≤ idx i j t ∧ idx i j t < s * s * t * t := by
  have hb := L_bd 16 (i / t) (j / t)
  have hs4 : s * s = 4 ^ e := by rw [hs, ← p22 e, Nat.two_mul, Int.pow_add]
  have hl : L 16 (i / t) (j / t) < 4 ^ e := L_small 16 e _ _ (Int.ediv_nonneg hi (by omega)) (by rw [← hs]; exact Int.ediv_lt_of_lt_mul (by omega) his) (Int.ediv_nonneg hj (by omega)) (by rw [← hs]; exact Int.ediv_lt_of_lt_mul (by omega) hjs)
  rw [← hs4] at hl
  unfold idx
  generalize L 16 (i / t) (j / t) = x at *
  generalize s * s = q at *
  rcases eight h1 h8 with rfl | rfl | rfl | rfl | rfl | rfl | rfl | rfl
  all_goals omega
def okTile (r c t : Int) : Prop := 1 ≤ r ∧ r ≤ 64 ∧ 1 ≤ c ∧ c ≤ 64 ∧ 1 ≤ t ∧ t ≤ 8
instance (r c t : Int) : Decidable (okTile r c t) := by unfold okTile; infer_instance
theorem odd_eq (r c t : Int) : morton_odd.f r c t = some (!decide (okTile r c t)) := by
  unfold morton_odd.f
  by_cases a : r < 1
  · rw [if_pos a, decide_eq_false (fun h : okTile r c t => by have := h.1; omega)]; rfl
  rw [if_neg a]
  by_cases b : r > 64
  · rw [if_pos b, decide_eq_false (fun h : okTile r c t => by have := h.2.1; omega)]; rfl
  rw [if_neg b]
  by_cases d : c < 1
  · rw [if_pos d, decide_eq_false (fun h : okTile r c t => by have := h.2.2.1; omega)]; rfl
  rw [if_neg d]
  by_cases e : c > 64
  · rw [if_pos e, decide_eq_false (fun h : okTile r c t => by have := h.2.2.2.1; omega)]; rfl
  rw [if_neg e]
  by_cases f : t < 1
  · rw [if_pos f, decide_eq_false (fun h : okTile r c t => by have := h.2.2.2.2.1; omega)]; rfl
  rw [if_neg f]
  by_cases g : t > 8
  · rw [decide_eq_true g, decide_eq_false (fun h : okTile r c t => by have := h.2.2.2.2.2; omega)]; rfl
  · rw [decide_eq_false g, decide_eq_true (show okTile r c t by unfold okTile; omega)]; rfl
theorem pe {d e : Nat} (h : e + d = 6) : (1 : Int) ≤ 2 ^ e ∧ (2 : Int) ^ e ≤ 64 := by
  rcases (by omega : e = 0 ∨ e = 1 ∨ e = 2 ∨ e = 3 ∨ e = 4 ∨ e = 5 ∨ e = 6) with rfl | rfl | rfl | rfl | rfl | rfl | rfl <;> decide
theorem two_pow_wrap {t : Int} (ht1 : 1 ≤ t) (ht2 : t ≤ 8) (e : Nat) (he : e ≤ 6) : wrap64 (2 ^ e * t) = 2 ^ e * t ∧ wrap64 (2 ^ e * 2) = 2 ^ (e + 1) ∧ wrap64 (2 * 2 ^ e) = 2 ^ (e + 1) := by
  rcases (by omega : e = 0 ∨ e = 1 ∨ e = 2 ∨ e = 3 ∨ e = 4 ∨ e = 5 ∨ e = 6) with rfl | rfl | rfl | rfl | rfl | rfl | rfl
  all_goals exact ⟨w64 (by omega) (by omega), by decide +kernel, by decide +kernel⟩
/-- A side, doubled till it is enough. -/
inductive Till (r c t : Int) : Nat → Nat → Prop
  | stop {e : Nat} : r ≤ 2 ^ e * t → c ≤ 2 ^ e * t → Till r c t e e
  | more {e e' : Nat} : e < 6 → ¬ (r ≤ 2 ^ e * t ∧ c ≤ 2 ^ e * t) → Till r c t (e + 1) e' → Till r c t e e'
theorem till_ex {r c t : Int} (ok : okTile r c t) (d : Nat) : ∀ e : Nat, e + d = 6 → ∃ e' : Nat, e' ≤ 6 ∧ r ≤ 2 ^ e' * t ∧ c ≤ 2 ^ e' * t ∧ Till r c t e e' := by
  obtain ⟨hr1, hr2, hc1, hc2, ht1, ht2⟩ := ok
  induction d with
  | zero =>
    intro e he
    obtain rfl : e = 6 := by omega
    exact ⟨6, by omega, by omega, by omega, .stop (by omega) (by omega)⟩
  | succ d ih =>
    intro e he
    by_cases h : r ≤ 2 ^ e * t ∧ c ≤ 2 ^ e * t
    · exact ⟨e, by omega, h.1, h.2, .stop h.1 h.2⟩
    · obtain ⟨e', h1, h2, h3, h4⟩ := ih (e + 1) (by omega)
      exact ⟨e', h1, h2, h3, .more (by omega) h h4⟩
theorem side_l {r c t : Int} (ht1 : 1 ≤ t) (ht2 : t ≤ 8) {e e' : Nat} (h : Till r c t e e') (he : e ≤ 6) : Ev (fun k => morton_Side.l0 k r c t (2 ^ e)) (2 ^ e', 0) := by
  induction h with
  | @stop e h1 h2 =>
    obtain ⟨w1, _, _⟩ := two_pow_wrap ht1 ht2 e he
    refine Ev.no (fun k => ?_)
    simp only [morton_Side.l0]; rw [w1, if_neg (by unfold mx; split <;> omega)]
  | @more e e' h1 h2 _ ih =>
    obtain ⟨w1, w2, w3⟩ := two_pow_wrap ht1 ht2 e he
    refine Ev.step (fun k => ?_) (ih (by omega))
    simp only [morton_Side.l0]; rw [w1, if_pos (by unfold mx; split <;> omega), w2]
theorem size_wrap {s t : Int} (h1 : 1 ≤ s) (h2 : s ≤ 64) (h3 : 1 ≤ t) (h4 : t ≤ 8) : wrap64 ((wrap64 ((wrap64 (s * s)) * t)) * t) = s * s * t * t ∧ 0 ≤ s * s * t * t ∧ s * s * t * t ≤ 262144 := by
  have hq : 0 ≤ s * s ∧ s * s ≤ 4096 := ⟨Int.mul_nonneg (by omega) (by omega), by have := Int.mul_le_mul h2 h2 (by omega) (by omega); omega⟩
  generalize s * s = q at *
  rcases eight h3 h4 with rfl | rfl | rfl | rfl | rfl | rfl | rfl | rfl
  all_goals
    rw [w64 (x := q) (by omega) (by omega), w64 (x := q * _) (by omega) (by omega), w64 (by omega) (by omega)]
    omega
/-- A layout that may be: its side is a power of two, as the law's. -/
theorem size_ok {r c t : Int} (ok : okTile r c t) : ∃ e : Nat, e ≤ 6 ∧ r ≤ 2 ^ e * t ∧ c ≤ 2 ^ e * t ∧ Ev (fun k => morton_Side.f k r c t) (2 ^ e, 0) ∧ Ev (fun k => morton_Size.f k r c t) (2 ^ e * 2 ^ e * t * t, 0) ∧ Till r c t 0 e := by
  obtain ⟨e, he, h1, h2, h4⟩ := till_ex ok 6 0 rfl
  have h3 := side_l ok.2.2.2.2.1 ok.2.2.2.2.2 h4 (by omega)
  have hp := pe (d := 6 - e) (e := e) (by omega)
  have hS : Ev (fun k => morton_Side.f k r c t) (2 ^ e, 0) := by
    refine Ev.congr (f := fun k => morton_Side.l0 k r c t 1) (fun k => ?_) h3
    unfold morton_Side.f
    rw [odd_eq, Option.bind_some, decide_eq_true ok, if_neg (by decide)]
  refine ⟨e, he, h1, h2, hS, ?_, h4⟩
  refine Ev.bind hS ?_
  obtain ⟨_, _, _, _, ht1, ht2⟩ := ok
  rw [(size_wrap hp.1 hp.2 ht1 ht2).1]
  exact Ev.now _
theorem size_no {r c t : Int} (ok : ¬ okTile r c t) : Ev (fun k => morton_Side.f k r c t) (0, 11) ∧ Ev (fun k => morton_Size.f k r c t) (0, 11) := by
  have hS : Ev (fun k => morton_Side.f k r c t) (0, 11) := by
    refine Ev.congr (f := fun k => some (0, 11)) (fun k => ?_) (Ev.now _)
    unfold morton_Side.f
    rw [odd_eq, Option.bind_some, decide_eq_false ok, if_pos (by decide)]
  refine ⟨hS, Ev.bind hS ?_⟩
  rw [show wrap64 ((wrap64 ((wrap64 ((0 : Int) * 0)) * t)) * t) = 0 by simp [wrap64]]
  exact Ev.now _
theorem lside_l {r c t : Int} (ht1 : 1 ≤ t) (ht2 : t ≤ 8) {e e' : Nat} (h : Till r c t e e') (he : e ≤ 6) : Ev (fun k => vernierlaw16_side.l0 k r c t (2 ^ e)) (2 ^ e') := by
  induction h with
  | @stop e h1 h2 =>
    obtain ⟨w1, _, _⟩ := two_pow_wrap ht1 ht2 e he
    refine Ev.no (fun k => ?_)
    simp only [vernierlaw16_side.l0]; rw [w1, if_neg (by omega), if_neg (by omega)]
  | @more e e' h1 h2 _ ih =>
    obtain ⟨w1, w2, w3⟩ := two_pow_wrap ht1 ht2 e he
    refine Ev.step (fun k => ?_) (ih (by omega))
    simp only [vernierlaw16_side.l0]; rw [w1]
    by_cases hr : 2 ^ e * t < r
    · rw [if_pos hr, w3]
    · rw [if_neg hr, if_pos (by omega), w3]
theorem lside_ev {r c t : Int} (ok : okTile r c t) {s : Int} (h : Ev (fun k => vernierlaw16_side.l0 k r c t 1) s) : Ev (fun k => vernierlaw16_side.f k r c t) s := by
  refine Ev.congr (f := fun k => vernierlaw16_side.j0 k r c t false) (fun k => ?_) (Ev.step (f := fun k => vernierlaw16_side.l0 k r c t 1) (fun k => ?_) h)
  · obtain ⟨hr1, hr2, hc1, hc2, ht1, ht2⟩ := ok
    unfold vernierlaw16_side.f
    rw [if_neg (by omega), if_neg (by omega), if_neg (by omega), if_neg (by omega), if_neg (by omega), decide_eq_false (by omega)]
  · simp only [vernierlaw16_side.j0]; rw [if_neg (by decide)]
theorem lside_no {r c t : Int} (ok : ¬ okTile r c t) : Ev (fun k => vernierlaw16_side.f k r c t) 0 := by
  refine Ev.congr (f := fun k => vernierlaw16_side.j0 k r c t true) (fun k => ?_) (Ev.no (fun k => by simp only [vernierlaw16_side.j0, if_true]))
  unfold okTile at ok
  unfold vernierlaw16_side.f
  by_cases a : r < 1
  · rw [if_pos a]
  rw [if_neg a]
  by_cases b : r > 64
  · rw [if_pos b]
  rw [if_neg b]
  by_cases d : c < 1
  · rw [if_pos d]
  rw [if_neg d]
  by_cases e : c > 64
  · rw [if_pos e]
  rw [if_neg e]
  by_cases f : t < 1
  · rw [if_pos f]
  rw [if_neg f, decide_eq_true (by omega)]
theorem lside_ok {r c t : Int} (ok : okTile r c t) {e : Nat} (h : Till r c t 0 e) : Ev (fun k => vernierlaw16_side.f k r c t) (2 ^ e) :=
  lside_ev ok (lside_l ok.2.2.2.2.1 ok.2.2.2.2.2 h (by omega))
theorem shr_u (n : Int) (b : Nat) (h : b ≤ 15) : shr .i64 n (IntKind.u64.wrap (b : Int)) = n / 2 ^ b := by
  rw [IntKind.wrap_u64, Int.emod_eq_of_lt (by omega) (by omega)]; exact shr_at n b (by omega)
theorem lspread_l (i j : Int) (d : Nat) : ∀ b : Nat, b + d = 16 → Ev (fun k => vernierlaw16_spread.l0 k i j (L b i j) (4 ^ b) b) (L 16 i j) := by
  induction d with
  | zero =>
    intro b hb
    obtain rfl : b = 16 := by omega
    refine Ev.no (fun k => ?_)
    simp only [vernierlaw16_spread.l0]; rw [if_neg (by omega)]
  | succ d ih =>
    intro b hb
    have hb15 : b ≤ 15 := by omega
    refine Ev.step (f := fun k => vernierlaw16_spread.l0 k i j (L (b + 1) i j) (4 ^ (b + 1)) ((b + 1 : Nat) : Int)) (fun k => ?_) (ih (b + 1) (by omega))
    have h1 := p4 b
    have h2 := p4_le hb15
    have h3 := L_bd b i j
    have e2 : wrap64 ((b : Int) + 1) = ((b + 1 : Nat) : Int) := by rw [w64 (by omega) (by omega)]; omega
    have e4 : wrap64 (4 * (4 : Int) ^ b) = 4 ^ (b + 1) := by rw [w64 (by omega) (by omega), Int.pow_succ, Int.mul_comm]
    have e5 : wrap64 (2 * (4 : Int) ^ b) = 2 * 4 ^ b := w64 (by omega) (by omega)
    have e6 : (0 : Int) ≤ IntKind.u64.wrap (b : Int) := by rw [IntKind.wrap_u64]; omega
    simp only [vernierlaw16_spread.l0]
    rw [if_pos (by omega), if_pos e6, shr_u _ _ hb15, shr_u _ _ hb15, and1_i64, and1_i64, e2, e4, e5, L_step]
    generalize (4 : Int) ^ b = p at *
    have hj : j / 2 ^ b % 2 = 0 ∨ j / 2 ^ b % 2 = 1 := by omega
    have hi : i / 2 ^ b % 2 = 0 ∨ i / 2 ^ b % 2 = 1 := by omega
    rcases hj with hj | hj <;> rcases hi with hi | hi
    · rw [hj, hi, if_neg (by decide), if_neg (by decide)]; congr 1 <;> omega
    · rw [hj, hi, if_neg (by decide), if_pos rfl, w64 (by omega) (by omega)]; congr 1 <;> omega
    · rw [hj, hi, if_pos rfl, if_neg (by decide), w64 (by omega) (by omega)]; congr 1 <;> omega
    · rw [hj, hi, if_pos rfl, if_pos rfl, w64 (x := _ + p) (by omega) (by omega), w64 (by omega) (by omega)]; congr 1 <;> omega
theorem lspread_ev (i j : Int) : Ev (fun k => vernierlaw16_spread.f k i j) (L 16 i j) := lspread_l i j 16 0 rfl
theorem and32_i64 (y : Int) : Go.bits .and .i64 y 4294967295 = y % 4294967296 := by
  have h1 : (BitVec.ofInt 64 (4294967295 : Int)).toNat = 2 ^ 32 - 1 := by decide
  have h2 : ((BitVec.ofInt 64 y).toNat : Int) = y % 18446744073709551616 := by
    rw [BitVec.toNat_ofInt]; omega
  show IntKind.i64.wrap ((BitVec.ofInt 64 y &&& BitVec.ofInt 64 4294967295).toNat : Int) = y % 4294967296
  rw [BitVec.toNat_and, h1, Nat.and_two_pow_sub_one_eq_mod, wraps_i64 _ (by omega) (by omega)]
  omega
theorem gather_l (n : Int) (d : Nat) : ∀ b : Nat, b + d = 16 → Ev (fun k => morton_gather.l0 k n (G b n) b) (G 16 n) := by
  induction d with
  | zero =>
    intro b hb
    obtain rfl : b = 16 := by omega
    refine Ev.no (fun k => ?_)
    simp only [morton_gather.l0]; rw [if_neg (by omega)]
  | succ d ih =>
    intro b hb
    have hb15 : b ≤ 15 := by omega
    refine Ev.step (f := fun k => morton_gather.l0 k n (G (b + 1) n) ((b + 1 : Nat) : Int)) (fun k => ?_) (ih (b + 1) (by omega))
    have h1 := p2 b
    have h2 := p2_le hb15
    have h3 := G_bd b n
    have e1 : wrap64 (2 * (b : Int)) = ((2 * b : Nat) : Int) := by rw [w64 (by omega) (by omega)]; omega
    have e2 : wrap64 ((b : Int) + 1) = ((b + 1 : Nat) : Int) := by rw [w64 (by omega) (by omega)]; omega
    have e3 : n / 4 ^ b % 2 = 0 ∨ n / 4 ^ b % 2 = 1 := by omega
    have e4 : n / 4 ^ b % 2 * 2 ^ b = 0 ∨ n / 4 ^ b % 2 * 2 ^ b = 2 ^ b := by rcases e3 with e | e <;> simp [e]
    simp only [morton_gather.l0]
    rw [if_pos (by omega), e1, if_pos (by omega), if_pos (by omega), shr_at _ _ (by omega), and1_i64, e2, G_step, p22]
    rw [shl_at _ _ (by omega) (by omega) (by omega)]
    rw [or_join b _ _ h3.1 h3.2 (by omega) (Int.mul_emod_left _ _) (by omega) (by omega)]
theorem apart_ev (z : Int) : Ev (fun k => morton_Apart.f k z) (G 16 (z / 2), G 16 z) := by
  refine Ev.bind (gather_l (z / 2) 16 0 rfl) ?_
  exact Ev.bind (gather_l z 16 0 rfl) (Ev.now _)
theorem last_ev (i j t z x : Int) (h : Ev (fun k => morton_Index.f k i j t) x) : Ev (fun k => vernierlaw16_MortonTells.j2 k i j t z x false) true := by
  refine Ev.step (f := fun k => (morton_Apart.f k z).bind fun bt118 => ((morton_Interleave.f k i j).bind fun t120 => ((vernierlaw16_spread.f k i j).bind fun t121 => (if t120 = t121 then ((morton_Index.f k i j t).bind fun t122 => (if t122 = x then ((vernierlaw16_spread.f k bt118.1 bt118.2).bind fun t123 => (some (t123 == (Go.bits .and .i64 z 4294967295)))) else (some false))) else (some false))))) (fun k => ?_) ?_
  · simp only [vernierlaw16_MortonTells.j2, if_neg (show ¬ (false = true) by decide)]
  · refine Ev.bind (apart_ev z) (Ev.bind (inter_ev i j) (Ev.bind (lspread_ev i j) ?_))
    simp only [if_true]
    refine Ev.bind h ?_
    simp only [if_true]
    refine Ev.bind (lspread_ev _ _) ?_
    rw [L_G, and32_i64, show (4 : Int) ^ 16 = 4294967296 by decide, beq_self_eq_true]
    exact Ev.now _
theorem mid_ev (i j t r c z x : Int) (h : Ev (fun k => morton_Index.f k i j t) x) : Ev (fun k => vernierlaw16_MortonTells.j1 k i j t r c z x) true := by
  have fin := last_ev i j t z x h
  by_cases ok : okTile r c t
  · obtain ⟨e, he, hrs, hcs, hs, hS, hT⟩ := size_ok ok
    have hL := lside_ok ok hT
    have hp := pe (d := 6 - e) (e := e) (by omega)
    have hz := size_wrap hp.1 hp.2 ok.2.2.2.2.1 ok.2.2.2.2.2
    refine Ev.step (fun k => by simp only [vernierlaw16_MortonTells.j1]; rfl) ?_
    refine Ev.bind hs (Ev.bind hS (Ev.bind hL ?_))
    simp only [if_true, hz.1]
    rw [decide_eq_true (show (2 : Int) ^ e > 0 by omega)]
    simpa using fin
  · refine Ev.step (fun k => by simp only [vernierlaw16_MortonTells.j1]; rfl) ?_
    refine Ev.bind (size_no ok).1 (Ev.bind (size_no ok).2 (Ev.bind (lside_no ok) ?_))
    rw [show wrap64 ((wrap64 ((wrap64 ((0 : Int) * 0)) * t)) * t) = 0 by simp [wrap64]]
    simpa using fin
theorem MortonTells : vernierlaw16_MortonTells.Pure := by
  intro i j t r c z hi hj _ _ _ _
  have bi := (by simpa [Lit.wf, IntKind.min, IntKind.max, IntKind.bits, IntKind.signed] using hi : -9223372036854775808 ≤ i ∧ i ≤ 9223372036854775807)
  have bj := (by simpa [Lit.wf, IntKind.min, IntKind.max, IntKind.bits, IntKind.signed] using hj : -9223372036854775808 ≤ j ∧ j ≤ 9223372036854775807)
  refine Ev.rounds ?_
  refine Ev.bind alive16 ?_
  simp only [if_true]
  have no : ∀ b : Bool, b = false → (i < 0 ∨ 65536 ≤ i ∨ j < 0 ∨ 65536 ≤ j ∨ t < 1 ∨ 8 < t) → Ev (fun k => vernierlaw16_MortonTells.j0 k i j t r c z (-1) b) true := fun b hb h => by
    subst hb
    refine Ev.step (f := fun k => vernierlaw16_MortonTells.j1 k i j t r c z (-1)) (fun k => ?_) (mid_ev i j t r c z (-1) (index_out i j t h))
    simp only [vernierlaw16_MortonTells.j0, if_neg (show ¬ (false = true) by decide)]
  by_cases c1 : i ≥ 0
  · simp only [if_pos c1]
    by_cases c2 : i < 65536
    · simp only [if_pos c2]
      by_cases c3 : j ≥ 0
      · simp only [if_pos c3]
        by_cases c4 : j < 65536
        · simp only [if_pos c4]
          by_cases c5 : t ≥ 1
          · simp only [if_pos c5]
            by_cases c6 : t ≤ 8
            · rw [decide_eq_true c6]
              refine Ev.step (f := fun k => (vernierlaw16_spread.f k (i / t) (j / t)).bind fun x => vernierlaw16_MortonTells.j1 k i j t r c z (wrap64 ((wrap64 ((wrap64 ((wrap64 (x * t)) * t)) + (wrap64 ((Int.tmod i t) * t)))) + (Int.tmod j t)))) (fun k => ?_) ?_
              · simp only [vernierlaw16_MortonTells.j0, if_true]
                rw [if_neg (by omega), tdiv_at (by omega) (by omega) c5, tdiv_at (by omega) (by omega) c5]
              · refine Ev.bind (lspread_ev _ _) ?_
                have hl := L_bd 16 (i / t) (j / t)
                rw [show (4 : Int) ^ 16 = 4294967296 by decide] at hl
                rw [idx_wrap _ i j t hl.1 hl.2 c1 c3 c5 c6]
                exact mid_ev i j t r c z _ (index_ev i j t c1 c2 c3 c4 c5 c6)
            · exact no _ (decide_eq_false c6) (by omega)
          · simp only [if_neg c5]; exact no _ rfl (by omega)
        · simp only [if_neg c4]; exact no _ rfl (by omega)
      · simp only [if_neg c3]; exact no _ rfl (by omega)
    · simp only [if_neg c2]; exact no _ rfl (by omega)
  · simp only [if_neg c1]; exact no _ rfl (by omega)
end Go.Proofs.Ytdkmmelbadcpjaa.Pure
