/- MortonApart: unlike places have unlike numbers. No condition: for every input of its five parameters. -/
import Derived.Test.YtdkmmelbadcpjaaPMortonApartx1
import Derived.Laws.BitsLemmas
import Derived.Laws.BitsAllLaws
namespace Go.Proofs.Ytdkmmelbadcpjaa.Pure
open Go.RowKit Go.Proofs.Ytdkmmelbadcpjaa.PMortonApart Go.Proofs.YtdkmmelbadcpjaaW.PrintWords Go.Proofs.YtdkmmelbadcpjaaW.PrintLast Go.Proofs.YtdkmmelbadcpjaaW.PrintMore
-- Interleaved bits, plainly (no program in sight).
theorem wraps_i64 (n : Int) (h₀ : 0 ≤ n) (h₁ : n < 2 ^ 63) : IntKind.i64.wrap n = n := by rw [IntKind.wrap_i64]; omega
theorem and1_i64 (y : Int) : Go.bits .and .i64 y 1 = y % 2 := by
  have h1 : (BitVec.ofInt 64 (1 : Int)).toNat = 1 := by decide
  have h2 : ((BitVec.ofInt 64 y).toNat : Int) = y % 18446744073709551616 := by
    rw [BitVec.toNat_ofInt]; omega
  show IntKind.i64.wrap ((BitVec.ofInt 64 y &&& BitVec.ofInt 64 1).toNat : Int) = y % 2
  rw [BitVec.toNat_and, h1, Nat.and_one_is_mod, wraps_i64 _ (by omega) (by omega)]
  omega
theorem mod_mul (z a p : Int) (ha : 0 < a) (hp : 0 < p) : z % (a * p) = z % a + a * (z / a % p) := by
  have h1 := Int.mul_ediv_add_emod z a
  have h2 := Int.mul_ediv_add_emod (z / a) p
  have h3 : 0 ≤ z % a ∧ z % a < a := ⟨Int.emod_nonneg _ (by omega), Int.emod_lt_of_pos _ ha⟩
  have h4 : 0 ≤ z / a % p ∧ z / a % p < p := ⟨Int.emod_nonneg _ (by omega), Int.emod_lt_of_pos _ hp⟩
  have h5 : a * (z / a % p) ≤ a * (p - 1) := Int.mul_le_mul_of_nonneg_left (by omega) (by omega)
  have h6 : 0 ≤ a * (z / a % p) := Int.mul_nonneg (by omega) h4.1
  have h7 : a * (p - 1) = a * p - a := by rw [Int.mul_sub, Int.mul_one]
  have h8 : z = (z % a + a * (z / a % p)) + a * p * (z / a / p) := by
    rw [Int.mul_assoc, Int.add_assoc, ← Int.mul_add, Int.add_comm (z / a % p), h2]; omega
  rw [show z % (a * p) = ((z % a + a * (z / a % p)) + a * p * (z / a / p)) % (a * p) from by rw [← h8], Int.add_mul_emod_self_left]
  exact Int.emod_eq_of_lt (by omega) (by omega)
theorem or_i64 (a b : Int) (ha : 0 ≤ a) (ha' : a < 2 ^ 63) (hb : 0 ≤ b) (hb' : b < 2 ^ 63) : Go.bits .or .i64 a b = ((a.toNat ||| b.toNat : Nat) : Int) := by
  obtain ⟨a, rfl⟩ := Int.eq_ofNat_of_zero_le ha
  obtain ⟨b, rfl⟩ := Int.eq_ofNat_of_zero_le hb
  exact (bits_nat .i64 63 (by decide) wraps_i64 a b (by omega) (by omega)).2
/-- The low n bits, bit b at place 2b. -/
def S : Nat → Int → Int
  | 0, _ => 0
  | n + 1, x => x % 2 + 4 * S n (x / 2)
def L : Nat → Int → Int → Int
  | 0, _, _ => 0
  | n + 1, i, j => (j % 2 + 2 * (i % 2)) + 4 * L n (i / 2) (j / 2)
def G : Nat → Int → Int
  | 0, _ => 0
  | n + 1, z => z % 2 + 2 * G n (z / 4)
theorem S_bd (n : Nat) : ∀ x, 0 ≤ S n x ∧ 3 * S n x < 4 ^ n := by
  induction n with
  | zero => intro x; simp [S]
  | succ n ih => intro x; have := ih (x / 2); simp only [S, Int.pow_succ]; omega
theorem L_bd (n : Nat) : ∀ i j, 0 ≤ L n i j ∧ L n i j < 4 ^ n := by
  induction n with
  | zero => intro i j; simp [L]
  | succ n ih => intro i j; have := ih (i / 2) (j / 2); simp only [L, Int.pow_succ]; omega
theorem G_bd (n : Nat) : ∀ z, 0 ≤ G n z ∧ G n z < 2 ^ n := by
  induction n with
  | zero => intro z; simp [G]
  | succ n ih => intro z; have := ih (z / 4); simp only [G, Int.pow_succ]; omega
theorem div_pow (x : Int) (b : Nat) : x / 2 / 2 ^ b = x / 2 ^ (b + 1) := by
  rw [Int.ediv_ediv_of_nonneg (by omega), Int.pow_succ, Int.mul_comm]
theorem div_pow4 (x : Int) (b : Nat) : x / 4 / 4 ^ b = x / 4 ^ (b + 1) := by
  rw [Int.ediv_ediv_of_nonneg (by omega), Int.pow_succ, Int.mul_comm]
theorem S_step (b : Nat) : ∀ x, S (b + 1) x = S b x + (x / 2 ^ b) % 2 * 4 ^ b := by
  induction b with
  | zero => intro x; simp [S]
  | succ b ih =>
    intro x
    have h := ih (x / 2)
    rw [div_pow] at h
    show x % 2 + 4 * S (b + 1) (x / 2) = x % 2 + 4 * S b (x / 2) + _
    rw [h, Int.pow_succ 4 b]
    generalize (x / 2 ^ (b + 1)) % 2 = y
    generalize (4 : Int) ^ b = p
    rw [Int.mul_add, ← Int.add_assoc]; congr 1
    rw [Int.mul_comm p 4, Int.mul_left_comm]
theorem L_step (b : Nat) : ∀ i j, L (b + 1) i j = L b i j + ((j / 2 ^ b) % 2 + 2 * ((i / 2 ^ b) % 2)) * 4 ^ b := by
  induction b with
  | zero => intro i j; simp [L]
  | succ b ih =>
    intro i j
    have h := ih (i / 2) (j / 2)
    rw [div_pow, div_pow] at h
    show j % 2 + 2 * (i % 2) + 4 * L (b + 1) (i / 2) (j / 2) = j % 2 + 2 * (i % 2) + 4 * L b (i / 2) (j / 2) + _
    rw [h, Int.pow_succ 4 b]
    generalize ((j / 2 ^ (b + 1)) % 2 + 2 * ((i / 2 ^ (b + 1)) % 2)) = y
    generalize (4 : Int) ^ b = p
    rw [Int.mul_add, ← Int.add_assoc]; congr 1
    rw [Int.mul_comm p 4, Int.mul_left_comm]
theorem G_step (b : Nat) : ∀ z, G (b + 1) z = G b z + (z / 4 ^ b) % 2 * 2 ^ b := by
  induction b with
  | zero => intro x; simp [G]
  | succ b ih =>
    intro x
    have h := ih (x / 4)
    rw [div_pow4] at h
    show x % 2 + 2 * G (b + 1) (x / 4) = x % 2 + 2 * G b (x / 4) + _
    rw [h, Int.pow_succ 2 b]
    generalize (x / 4 ^ (b + 1)) % 2 = y
    generalize (2 : Int) ^ b = p
    rw [Int.mul_add, ← Int.add_assoc]; congr 1
    rw [Int.mul_comm p 2, Int.mul_left_comm]
theorem L_G (n : Nat) : ∀ z, L n (G n (z / 2)) (G n z) = z % 4 ^ n := by
  induction n with
  | zero => intro z; simp [L]
  | succ n ih =>
    intro z
    have e1 : G (n + 1) (z / 2) % 2 = z / 2 % 2 := by simp only [G]; omega
    have e2 : G (n + 1) (z / 2) / 2 = G n (z / 4 / 2) := by simp only [G]; rw [show z / 2 / 4 = z / 4 / 2 by omega]; omega
    have e3 : G (n + 1) z % 2 = z % 2 := by simp only [G]; omega
    have e4 : G (n + 1) z / 2 = G n (z / 4) := by simp only [G]; omega
    simp only [L]
    rw [e1, e2, e3, e4, ih (z / 4)]
    have hp : (0 : Int) < 4 ^ n := Int.pow_pos (by omega)
    have h5 : z % 4 ^ (n + 1) = z % 4 + 4 * (z / 4 % 4 ^ n) := by
      rw [Int.pow_succ, Int.mul_comm, mod_mul _ _ _ (by omega) hp]
    rw [h5]; omega
theorem G_L (n : Nat) : ∀ i j, G n (L n i j) = j % 2 ^ n ∧ G n (L n i j / 2) = i % 2 ^ n := by
  induction n with
  | zero => intro i j; simp [G]
  | succ n ih =>
    intro i j
    obtain ⟨h1, h2⟩ := ih (i / 2) (j / 2)
    have e1 : L (n + 1) i j % 2 = j % 2 := by simp only [L]; omega
    have e2 : L (n + 1) i j / 4 = L n (i / 2) (j / 2) := by simp only [L]; omega
    have e3 : L (n + 1) i j / 2 % 2 = i % 2 := by simp only [L]; omega
    have e4 : L (n + 1) i j / 2 / 4 = L n (i / 2) (j / 2) / 2 := by simp only [L]; omega
    have hp : (0 : Int) < 2 ^ n := Int.pow_pos (by omega)
    constructor
    · simp only [G]; rw [e1, e2, h1, Int.pow_succ, Int.mul_comm _ 2, mod_mul _ _ _ (by omega) hp]
    · simp only [G]; rw [e3, e4, h2, Int.pow_succ, Int.mul_comm _ 2, mod_mul _ _ _ (by omega) hp]
theorem or4 (a b s t : Nat) (hs : s < 2) (ht : t < 2) : (4 * a + s) ||| (4 * b + 2 * t) = 4 * (a ||| b) + (s + 2 * t) := by
  apply Nat.eq_of_testBit_eq
  intro k
  have c : ∀ (x r : Nat), r < 4 → (4 * x + r).testBit k = if k < 2 then r.testBit k else x.testBit (k - 2) := fun x r hr => by
    have := Nat.testBit_two_pow_mul_add x (i := 2) (b := r) (by simpa using hr) k
    simpa using this
  rw [Nat.testBit_or, c _ _ (by omega), c _ _ (by omega), c _ _ (by omega), Nat.testBit_or]
  split
  · obtain rfl | rfl : s = 0 ∨ s = 1 := by omega
    all_goals obtain rfl | rfl : t = 0 ∨ t = 1 := by omega
    all_goals obtain rfl | rfl : k = 0 ∨ k = 1 := by omega
    all_goals decide
  · rfl
theorem or_S (n : Nat) : ∀ i j, (S n j).toNat ||| (2 * S n i).toNat = (L n i j).toNat := by
  induction n with
  | zero => intro i j; simp [S, L]
  | succ n ih =>
    intro i j
    have h := ih (i / 2) (j / 2)
    have b1 := S_bd n (i / 2)
    have b2 := S_bd n (j / 2)
    have b3 := L_bd n (i / 2) (j / 2)
    simp only [S, L]
    have e1 : (j % 2 + 4 * S n (j / 2)).toNat = 4 * (S n (j / 2)).toNat + (j % 2).toNat := by omega
    have e2 : (2 * (i % 2 + 4 * S n (i / 2))).toNat = 4 * (2 * S n (i / 2)).toNat + 2 * (i % 2).toNat := by omega
    rw [e1, e2, or4 _ _ _ _ (by omega) (by omega), h]
    omega
-- What the printed functions of the package morton come to.
theorem p4 (b : Nat) : (0 : Int) < 4 ^ b := Int.pow_pos (by omega)
theorem p2 (b : Nat) : (0 : Int) < 2 ^ b := Int.pow_pos (by omega)
theorem p22 (b : Nat) : (2 : Int) ^ (2 * b) = 4 ^ b := by rw [Int.pow_mul]; rfl
theorem p4_le {b : Nat} (h : b ≤ 15) : (4 : Int) ^ b ≤ 1073741824 := by
  have := Nat.pow_le_pow_right (n := 4) (by omega) h
  have h2 : ((4 ^ b : Nat) : Int) ≤ ((4 ^ 15 : Nat) : Int) := by exact_mod_cast this
  simpa using h2
theorem p2_le {b : Nat} (h : b ≤ 15) : (2 : Int) ^ b ≤ 32768 := by
  have := Nat.pow_le_pow_right (n := 2) (by omega) h
  have h2 : ((2 ^ b : Nat) : Int) ≤ ((2 ^ 15 : Nat) : Int) := by exact_mod_cast this
  simpa using h2
theorem or_join (i : Nat) (y x : Int) (hy : 0 ≤ y) (hy' : y < 2 ^ i) (hx : 0 ≤ x) (hx' : x % 2 ^ i = 0) (h1 : y < 2 ^ 63) (h2 : x < 2 ^ 63) : Go.bits .or .i64 y x = y + x := by
  have h := bits_join .i64 63 (by decide) wraps_i64 i x y hx hx' h2 hy hy' h1
  rw [or_i64 _ _ hx h2 hy h1] at h
  rw [or_i64 _ _ hy h1 hx h2, Nat.or_comm, h]; omega
theorem shr_at (n : Int) (b : Nat) (h : b ≤ 64) : shr .i64 n (b : Int) = n / 2 ^ b := by
  unfold shr; rw [Nat.min_eq_left (by show b ≤ 64; exact h)]; rfl
theorem shl_at (y : Int) (b : Nat) (h : b ≤ 64) (h0 : 0 ≤ y * 2 ^ b) (h1 : y * 2 ^ b < 2 ^ 63) : shl .i64 y (b : Int) = y * 2 ^ b := by
  unfold shl; rw [Nat.min_eq_left (by show b ≤ 64; exact h)]; exact wraps_i64 _ h0 h1
theorem w64 {x : Int} (h0 : -9223372036854775808 ≤ x) (h1 : x < 9223372036854775808) : wrap64 x = x := by unfold wrap64; omega
theorem spread_l (n : Int) (d : Nat) : ∀ b : Nat, b + d = 16 → Ev (fun k => morton_spread.l0 k n (S b n) b) (S 16 n) := by
  induction d with
  | zero =>
    intro b hb
    obtain rfl : b = 16 := by omega
    refine Ev.step (f := fun _ => some (S 16 n)) (fun k => ?_) (Ev.now _)
    simp only [morton_spread.l0]; rw [if_neg (by omega)]
  | succ d ih =>
    intro b hb
    have hb15 : b ≤ 15 := by omega
    refine Ev.step (f := fun k => morton_spread.l0 k n (S (b + 1) n) ((b + 1 : Nat) : Int)) (fun k => ?_) (ih (b + 1) (by omega))
    have h1 := p4 b
    have h2 := p4_le hb15
    have h3 := S_bd b n
    have e1 : wrap64 (2 * (b : Int)) = ((2 * b : Nat) : Int) := by rw [w64 (by omega) (by omega)]; omega
    have e2 : wrap64 ((b : Int) + 1) = ((b + 1 : Nat) : Int) := by rw [w64 (by omega) (by omega)]; omega
    have e3 : n / 2 ^ b % 2 = 0 ∨ n / 2 ^ b % 2 = 1 := by omega
    have e4 : n / 2 ^ b % 2 * 4 ^ b = 0 ∨ n / 2 ^ b % 2 * 4 ^ b = 4 ^ b := by rcases e3 with e | e <;> simp [e]
    simp only [morton_spread.l0]
    rw [if_pos (by omega), if_pos (by omega), e1, if_pos (by omega), shr_at _ _ (by omega), and1_i64, e2, S_step]
    rw [shl_at _ _ (by omega) (by rw [p22]; omega) (by rw [p22]; omega), p22]
    rw [or_join (2 * b) _ _ h3.1 (by rw [p22]; omega) (by omega) (by rw [p22]; exact Int.mul_emod_left _ _) (by omega) (by omega)]
theorem spread_ev (n : Int) : Ev (fun k => morton_spread.f k n) (S 16 n) := spread_l n 16 0 rfl
theorem inter_ev (i j : Int) : Ev (fun k => morton_Interleave.f k i j) (L 16 i j) := by
  refine Ev.bind (spread_ev j) (Ev.bind (f := fun _ t => some (Go.bits .or .i64 (S 16 j) (wrap64 (t * 2)))) (spread_ev i) ?_)
  have h1 := S_bd 16 i
  have h2 := S_bd 16 j
  have h3 := L_bd 16 i j
  have h4 := or_S 16 i j
  rw [show (4 : Int) ^ 16 = 4294967296 by decide] at h1 h2 h3
  rw [w64 (by omega) (by omega), or_i64 _ _ h2.1 (by omega) (by omega) (by omega), Int.mul_comm _ 2, h4, Int.toNat_of_nonneg h3.1]
  exact Ev.now _
/-- A place's number. -/
def idx (i j t : Int) : Int := L 16 (i / t) (j / t) * t * t + i % t * t + j % t
theorem eight {t : Int} (h1 : 1 ≤ t) (h8 : t ≤ 8) : t = 1 ∨ t = 2 ∨ t = 3 ∨ t = 4 ∨ t = 5 ∨ t = 6 ∨ t = 7 ∨ t = 8 := by omega
theorem idx_wrap (l i j t : Int) (hl0 : 0 ≤ l) (hl : l < 4294967296) (hi : 0 ≤ i) (hj : 0 ≤ j) (h1 : 1 ≤ t) (h8 : t ≤ 8) :
    wrap64 ((wrap64 ((wrap64 ((wrap64 (l * t)) * t)) + (wrap64 ((Int.tmod i t) * t)))) + (Int.tmod j t)) = l * t * t + i % t * t + j % t := by
  rw [Int.tmod_eq_emod_of_nonneg hi, Int.tmod_eq_emod_of_nonneg hj]
  rcases eight h1 h8 with rfl | rfl | rfl | rfl | rfl | rfl | rfl | rfl
  all_goals
    rw [w64 (x := l * _) (by omega) (by omega), w64 (x := l * _ * _) (by omega) (by omega), w64 (x := i % _ * _) (by omega) (by omega), w64 (x := _ + _ * _) (by omega) (by omega), w64 (by omega) (by omega)]
theorem tdiv_at {i t : Int} (hi : 0 ≤ i) (hi' : i < 9223372036854775808) (h1 : 1 ≤ t) : wrap64 (Int.tdiv i t) = i / t := by
  rw [Int.tdiv_eq_ediv_of_nonneg hi]
  have h2 : 0 ≤ i / t := Int.ediv_nonneg hi (by omega)
  have h3 : i / t ≤ i := Int.ediv_le_self _ hi
  exact w64 (by omega) (by omega)
theorem index_ev (i j t : Int) (hi : 0 ≤ i) (hi' : i < 65536) (hj : 0 ≤ j) (hj' : j < 65536) (h1 : 1 ≤ t) (h8 : t ≤ 8) : Ev (fun k => morton_Index.f k i j t) (idx i j t) := by
  refine Ev.congr (f := fun k => (morton_Interleave.f k (i / t) (j / t)).bind fun l => some (wrap64 ((wrap64 ((wrap64 ((wrap64 (l * t)) * t)) + (wrap64 ((Int.tmod i t) * t)))) + (Int.tmod j t)))) (fun k => ?_) ?_
  · unfold morton_Index.f
    rw [if_neg (by omega), if_neg (by omega), if_neg (by omega), if_neg (by omega), if_neg (by omega), if_neg (by omega), if_neg (by omega), tdiv_at hi (by omega) h1, tdiv_at hj (by omega) h1]
  · refine Ev.bind (inter_ev _ _) ?_
    have h3 := L_bd 16 (i / t) (j / t)
    rw [show (4 : Int) ^ 16 = 4294967296 by decide] at h3
    rw [idx_wrap _ _ _ _ h3.1 h3.2 hi hj h1 h8]
    exact Ev.now _
theorem index_out (i j t : Int) (h : i < 0 ∨ 65536 ≤ i ∨ j < 0 ∨ 65536 ≤ j ∨ t < 1 ∨ 8 < t) : Ev (fun k => morton_Index.f k i j t) (-1) := by
  refine Ev.congr (f := fun _ => some (-1)) (fun k => ?_) (Ev.now _)
  unfold morton_Index.f
  by_cases a : i < 0
  · rw [if_pos a]
  rw [if_neg a]
  by_cases a : i ≥ 65536
  · rw [if_pos a]
  rw [if_neg a]
  by_cases a : j < 0
  · rw [if_pos a]
  rw [if_neg a]
  by_cases a : j ≥ 65536
  · rw [if_pos a]
  rw [if_neg a]
  by_cases a : t < 1
  · rw [if_pos a]
  rw [if_neg a, if_pos (by omega)]
theorem alive16 : Ev (fun k => vernierlaw16_alive.f k) true := by
  refine Ev.bind (inter_ev 1 1) ?_
  rw [show L 16 1 1 = 3 by decide +kernel]
  simp only [if_true]
  refine Ev.bind (f := fun _ t => some (t == 1)) (index_ev 0 1 1 (by omega) (by omega) (by omega) (by omega) (by omega) (by omega)) ?_
  rw [show idx 0 1 1 = 1 by decide +kernel]
  exact Ev.now _
theorem L_inj {i j k l : Int} (hi : 0 ≤ i) (hi' : i < 65536) (hj : 0 ≤ j) (hj' : j < 65536) (hk : 0 ≤ k) (hk' : k < 65536) (hl : 0 ≤ l) (hl' : l < 65536) (h : L 16 i j = L 16 k l) : i = k ∧ j = l := by
  have h1 := G_L 16 i j
  have h2 := G_L 16 k l
  rw [h] at h1
  rw [show (2 : Int) ^ 16 = 65536 by decide] at h1 h2
  omega
theorem idx_inj {i j k l t : Int} (hi : 0 ≤ i) (hi' : i < 65536) (hj : 0 ≤ j) (hj' : j < 65536) (hk : 0 ≤ k) (hk' : k < 65536) (hl : 0 ≤ l) (hl' : l < 65536) (h1 : 1 ≤ t) (h8 : t ≤ 8) (h : idx i j t = idx k l t) : i = k ∧ j = l := by
  have c := @L_inj (i / t) (j / t) (k / t) (l / t)
  unfold idx at h
  generalize L 16 (i / t) (j / t) = x at *
  generalize L 16 (k / t) (l / t) = y at *
  rcases eight h1 h8 with rfl | rfl | rfl | rfl | rfl | rfl | rfl | rfl
  all_goals
    have := c (by omega) (by omega) (by omega) (by omega) (by omega) (by omega) (by omega) (by omega) (by omega)
    omega
theorem MortonApart : vernierlaw16_MortonApart.Pure := by
  intro i j k l t hi hj hk hl ht
  have bd : ∀ x : Int, (Lit.int .u16 x).wf = true → 0 ≤ x ∧ x < 65536 := fun x h => by
    have := (by simpa [Lit.wf, IntKind.min, IntKind.max, IntKind.bits, IntKind.signed] using h : 0 ≤ x ∧ x ≤ 65535); omega
  have bi := bd i hi
  have bj := bd j hj
  have bk := bd k hk
  have bl := bd l hl
  have bt : 0 ≤ t ∧ t < 256 := by
    have := (by simpa [Lit.wf, IntKind.min, IntKind.max, IntKind.bits, IntKind.signed] using ht : 0 ≤ t ∧ t ≤ 255); omega
  refine Ev.rounds ?_
  refine Ev.bind alive16 ?_
  simp only [if_true]
  rw [w64 (by omega) (by omega), w64 (x := j) (by omega) (by omega), w64 (x := k) (by omega) (by omega), w64 (x := l) (by omega) (by omega), w64 (x := t) (by omega) (by omega), Int.tmod_eq_emod_of_nonneg (by omega), w64 (by omega) (by omega)]
  have t1 : 1 ≤ 1 + t % 8 := by omega
  have t8 : 1 + t % 8 ≤ 8 := by omega
  generalize 1 + t % 8 = s at *
  refine Ev.bind (index_ev i j s bi.1 bi.2 bj.1 bj.2 t1 t8) ?_
  refine Ev.bind (index_ev k l s bk.1 bk.2 bl.1 bl.2 t1 t8) ?_
  refine Ev.congr (f := fun _ => some true) (fun _ => ?_) (Ev.now _)
  have inj := @idx_inj i j k l s bi.1 bi.2 bj.1 bj.2 bk.1 bk.2 bl.1 bl.2 t1 t8
  by_cases h : idx i j s = idx k l s
  · obtain ⟨rfl, rfl⟩ := inj h
    simp
  · by_cases e : i = k
    · subst e
      have : j ≠ l := fun e => h (by rw [e])
      rw [beq_eq_false_iff_ne.mpr h, beq_eq_false_iff_ne.mpr this]; simp
    · rw [if_neg e, beq_eq_false_iff_ne.mpr h]; rfl
end Go.Proofs.Ytdkmmelbadcpjaa.Pure
