/- MortonBack: there and back a matrix is the same, bit by bit, whatever its words; where no place is there is +0. For every matrix and tile. -/
import Derived.Test.YtdkmmelbadcpjaaPMortonBackx4
import Derived.Laws.BitsLemmas
import Derived.Laws.BitsAllLaws
namespace Go.Proofs.Ytdkmmelbadcpjaa.Pure
open Go.RowKit Go.Proofs.Ytdkmmelbadcpjaa.PMortonBack Go.Proofs.YtdkmmelbadcpjaaW.PrintWords Go.Proofs.YtdkmmelbadcpjaaW.PrintLast Go.Proofs.YtdkmmelbadcpjaaW.PrintMore
-- Whole numbers that fit; places in a matrix; lists made of a function.
theorem w64 {x : Int} (h0 : -9223372036854775808 ≤ x) (h1 : x < 9223372036854775808) : wrap64 x = x := by unfold wrap64; omega
theorem wN (n : Nat) (h : n < 9223372036854775808) : wrap64 (n : Int) = (n : Int) := w64 (by omega) (by omega)
theorem wmul (a b : Nat) (h : a * b < 9223372036854775808) : wrap64 ((a : Int) * (b : Int)) = ((a * b : Nat) : Int) := by rw [← Int.natCast_mul]; exact wN _ h
theorem wadd (a b : Nat) (h : a + b < 9223372036854775808) : wrap64 ((a : Int) + (b : Int)) = ((a + b : Nat) : Int) := by rw [← Int.natCast_add]; exact wN _ h
theorem wsucc (a : Nat) (h : a + 1 < 9223372036854775808) : wrap64 ((a : Int) + 1) = ((a + 1 : Nat) : Int) := wadd a 1 h
theorem place_lt {i j r c : Nat} (hi : i < r) (hj : j < c) : i * c + j < r * c := by
  have : (i + 1) * c ≤ r * c := Nat.mul_le_mul_right c hi
  rw [Nat.add_mul, Nat.one_mul] at this; omega
theorem place_div {i j c : Nat} (hj : j < c) : (i * c + j) / c = i := by
  rw [Nat.mul_comm, Nat.mul_add_div (by omega), Nat.div_eq_of_lt hj, Nat.add_zero]
theorem place_mod {i j c : Nat} (hj : j < c) : (i * c + j) % c = j := by
  rw [Nat.mul_comm, Nat.mul_add_mod, Nat.mod_eq_of_lt hj]
theorem place_of (k c : Nat) : k / c * c + k % c = k := by rw [Nat.mul_comm]; exact Nat.div_add_mod k c
theorem div_lt_of {k r c : Nat} (h : k < r * c) : k / c < r := Nat.div_lt_of_lt_mul (by rw [Nat.mul_comm]; exact h)
theorem mod_lt_of {k r c : Nat} (h : k < r * c) : k % c < c := Nat.mod_lt _ (by rcases Nat.eq_zero_or_pos c with rfl | h' <;> omega)
def mk (n : Nat) (f : Nat → Int) : List Int := (List.range n).map f
theorem mk_len (n : Nat) (f : Nat → Int) : (mk n f).length = n := by simp [mk]
theorem mk_get (n : Nat) (f : Nat → Int) (k : Nat) (h : k < n) : (mk n f).getD k 0 = f k := by
  simp [mk, List.getD_eq_getElem?_getD, h]
theorem rd_mk (n : Nat) (f : Nat → Int) (k : Nat) (h : k < n) : rd (mk n f) (k : Int) = f k := mk_get n f k h
theorem rd_nat (l : List Int) (k : Nat) : rd l (k : Int) = l.getD k 0 := rfl
theorem mk_congr {n : Nat} {f g : Nat → Int} (h : ∀ k, k < n → f k = g k) : mk n f = mk n g := List.map_congr_left (fun k hk => h k (List.mem_range.1 hk))
theorem mk_set (n : Nat) (f : Nat → Int) (p : Nat) (v : Int) : (mk n f).set p v = mk n (fun k => if k = p then v else f k) := by
  apply List.ext_getElem
  · simp [mk]
  · intro i h1 h2
    simp only [mk, List.length_set, List.length_map, List.length_range] at h1
    rw [List.getElem_set]
    simp only [mk, List.getElem_map, List.getElem_range]
    by_cases e : p = i
    · subst e; simp
    · rw [if_neg e, if_neg (fun h => e h.symm)]
theorem mk_const (n : Nat) (v : Int) : List.replicate n v = mk n (fun _ => v) := by
  apply List.ext_getElem
  · simp [mk]
  · intro i h1 h2; simp [mk]
theorem mk_self (l : List Int) : mk l.length (fun k => l.getD k 0) = l := by
  apply List.ext_getElem
  · simp [mk]
  · intro i h1 h2
    simp only [mk, List.getElem_map, List.getElem_range]
    rw [List.getD_eq_getElem?_getD, List.getElem?_eq_getElem h2]; rfl
theorem mk_eq {n : Nat} {f : Nat → Int} {l : List Int} (hl : l.length = n) (h : ∀ k, k < n → l.getD k 0 = f k) : l = mk n f := by
  subst hl
  exact (mk_self l).symm.trans (mk_congr h)
theorem Ev.no {α : Type} {g : Nat → Option α} {r : α} (h : ∀ k, g (k + 1) = some r) : Ev g r := Ev.step (f := fun _ => some r) h (Ev.now r)
theorem same_l (a b : List Int) (hl : a.length = b.length) (hm : a.length < 9223372036854775807) (d : Nat) : ∀ i : Nat, i + d = a.length → Ev (fun k => vernierref01_Same.l0 k a b i) (decide (a.drop i = b.drop i)) := by
  induction d with
  | zero =>
    intro i hi
    refine Ev.no (fun k => ?_)
    simp only [vernierref01_Same.l0]; rw [if_neg (by omega), List.drop_of_length_le (by omega), List.drop_of_length_le (by omega)]; rfl
  | succ d ih =>
    intro i hi
    have h1 : i < a.length := by omega
    have h2 : i < b.length := by omega
    have e1 : a.drop i = a.getD i 0 :: a.drop (i + 1) := by rw [List.getD_eq_getElem?_getD, List.getElem?_eq_getElem h1, List.drop_eq_getElem_cons h1]; rfl
    have e2 : b.drop i = b.getD i 0 :: b.drop (i + 1) := by rw [List.getD_eq_getElem?_getD, List.getElem?_eq_getElem h2, List.drop_eq_getElem_cons h2]; rfl
    have hs : ∀ k, vernierref01_Same.l0 (k + 1) a b i = if a.getD i 0 = b.getD i 0 then vernierref01_Same.l0 k a b ((i + 1 : Nat) : Int) else some false := fun k => by
      simp only [vernierref01_Same.l0]; rw [if_pos (by omega), if_pos (by omega), if_pos (by omega), rd_nat, rd_nat, wsucc _ (by omega)]
    by_cases e : a.getD i 0 = b.getD i 0
    · refine Ev.step (f := fun k => vernierref01_Same.l0 k a b ((i + 1 : Nat) : Int)) (fun k => by rw [hs, if_pos e]) ?_
      have := ih (i + 1) (by omega)
      rw [e1, e2, e]
      simpa using this
    · refine Ev.no (fun k => ?_)
      rw [hs, if_neg e, e1, e2, decide_eq_false (fun h => e (List.cons.inj h).1)]
theorem same_ev (a b : List Int) (hm : a.length < 9223372036854775807) : Ev (fun k => vernierref01_Same.f k a b) (decide (a = b)) := by
  by_cases h : a.length = b.length
  · refine Ev.congr (f := fun k => vernierref01_Same.l0 k a b ((0 : Nat) : Int)) (fun k => ?_) ?_
    · unfold vernierref01_Same.f; rw [if_pos (by omega)]; rfl
    · simpa using same_l a b h hm a.length 0 (by omega)
  · refine Ev.congr (f := fun _ => some false) (fun k => ?_) ?_
    · unfold vernierref01_Same.f; rw [if_neg (by omega)]
    · rw [decide_eq_false (fun e => h (by rw [e]))]; exact Ev.now _
-- Interleaved bits, plainly (no program in sight).
theorem wraps_i64 (n : Int) (h₀ : 0 ≤ n) (h₁ : n < 2 ^ 63) : IntKind.i64.wrap n = n := by rw [IntKind.wrap_i64]; omega
theorem and1_i64 (y : Int) : Go.bits .and .i64 y 1 = y % 2 := by
  have h1 : (BitVec.ofInt 64 (1 : Int)).toNat = 1 := by decide
  have h2 : ((BitVec.ofInt 64 y).toNat : Int) = y % 18446744073709551616 := by
    rw [BitVec.toNat_ofInt]; omega
  show IntKind.i64.wrap ((BitVec.ofInt 64 y &&& BitVec.ofInt 64 1).toNat : Int) = y % 2
  rw [BitVec.toNat_and, h1, Nat.and_one_is_mod, wraps_i64 _ (by omega) (by omega)]
  omega
theorem mod_mul (z a p : Int) (ha : 0 < a) (hp : 0 < p) : z % (a * p) = z % a + a * (z / a % p) := by
  have h1 := Int.mul_ediv_add_emod z a
  have h2 := Int.mul_ediv_add_emod (z / a) p
  have h3 : 0 ≤ z % a ∧ z % a < a := ⟨Int.emod_nonneg _ (by omega), Int.emod_lt_of_pos _ ha⟩
  have h4 : 0 ≤ z / a % p ∧ z / a % p < p := ⟨Int.emod_nonneg _ (by omega), Int.emod_lt_of_pos _ hp⟩
  have h5 : a * (z / a % p) ≤ a * (p - 1) := Int.mul_le_mul_of_nonneg_left (by omega) (by omega)
  have h6 : 0 ≤ a * (z / a % p) := Int.mul_nonneg (by omega) h4.1
  have h7 : a * (p - 1) = a * p - a := by rw [Int.mul_sub, Int.mul_one]
  have h8 : z = (z % a + a * (z / a % p)) + a * p * (z / a / p) := by
    rw [Int.mul_assoc, Int.add_assoc, ← Int.mul_add, Int.add_comm (z / a % p), h2]; omega
  rw [show z % (a * p) = ((z % a + a * (z / a % p)) + a * p * (z / a / p)) % (a * p) from by rw [← h8], Int.add_mul_emod_self_left]
  exact Int.emod_eq_of_lt (by omega) (by omega)
theorem or_i64 (a b : Int) (ha : 0 ≤ a) (ha' : a < 2 ^ 63) (hb : 0 ≤ b) (hb' : b < 2 ^ 63) : Go.bits .or .i64 a b = ((a.toNat ||| b.toNat : Nat) : Int) := by
  obtain ⟨a, rfl⟩ := Int.eq_ofNat_of_zero_le ha
  obtain ⟨b, rfl⟩ := Int.eq_ofNat_of_zero_le hb
  exact (bits_nat .i64 63 (by decide) wraps_i64 a b (by omega) (by omega)).2
/-- The low n bits, bit b at place 2b. -/
def S : Nat → Int → Int
  | 0, _ => 0
  | n + 1, x => x % 2 + 4 * S n (x / 2)
def L : Nat → Int → Int → Int
  | 0, _, _ => 0
  | n + 1, i, j => (j % 2 + 2 * (i % 2)) + 4 * L n (i / 2) (j / 2)
def G : Nat → Int → Int
  | 0, _ => 0
  | n + 1, z => z % 2 + 2 * G n (z / 4)
theorem S_bd (n : Nat) : ∀ x, 0 ≤ S n x ∧ 3 * S n x < 4 ^ n := by
  induction n with
  | zero => intro x; simp [S]
  | succ n ih => intro x; have := ih (x / 2); simp only [S, Int.pow_succ]; omega
theorem L_bd (n : Nat) : ∀ i j, 0 ≤ L n i j ∧ L n i j < 4 ^ n := by
  induction n with
  | zero => intro i j; simp [L]
  | succ n ih => intro i j; have := ih (i / 2) (j / 2); simp only [L, Int.pow_succ]; omega
theorem G_bd (n : Nat) : ∀ z, 0 ≤ G n z ∧ G n z < 2 ^ n := by
  induction n with
  | zero => intro z; simp [G]
  | succ n ih => intro z; have := ih (z / 4); simp only [G, Int.pow_succ]; omega
theorem div_pow (x : Int) (b : Nat) : x / 2 / 2 ^ b = x / 2 ^ (b + 1) := by
  rw [Int.ediv_ediv_of_nonneg (by omega), Int.pow_succ, Int.mul_comm]
theorem div_pow4 (x : Int) (b : Nat) : x / 4 / 4 ^ b = x / 4 ^ (b + 1) := by
  rw [Int.ediv_ediv_of_nonneg (by omega), Int.pow_succ, Int.mul_comm]
theorem S_step (b : Nat) : ∀ x, S (b + 1) x = S b x + (x / 2 ^ b) % 2 * 4 ^ b := by
  induction b with
  | zero => intro x; simp [S]
  | succ b ih =>
    intro x
    have h := ih (x / 2)
    rw [div_pow] at h
    show x % 2 + 4 * S (b + 1) (x / 2) = x % 2 + 4 * S b (x / 2) + _
    rw [h, Int.pow_succ 4 b]
    generalize (x / 2 ^ (b + 1)) % 2 = y
    generalize (4 : Int) ^ b = p
    rw [Int.mul_add, ← Int.add_assoc]; congr 1
    rw [Int.mul_comm p 4, Int.mul_left_comm]
theorem L_step (b : Nat) : ∀ i j, L (b + 1) i j = L b i j + ((j / 2 ^ b) % 2 + 2 * ((i / 2 ^ b) % 2)) * 4 ^ b := by
  induction b with
  | zero => intro i j; simp [L]
  | succ b ih =>
    intro i j
    have h := ih (i / 2) (j / 2)
    rw [div_pow, div_pow] at h
    show j % 2 + 2 * (i % 2) + 4 * L (b + 1) (i / 2) (j / 2) = j % 2 + 2 * (i % 2) + 4 * L b (i / 2) (j / 2) + _
    rw [h, Int.pow_succ 4 b]
    generalize ((j / 2 ^ (b + 1)) % 2 + 2 * ((i / 2 ^ (b + 1)) % 2)) = y
    generalize (4 : Int) ^ b = p
    rw [Int.mul_add, ← Int.add_assoc]; congr 1
    rw [Int.mul_comm p 4, Int.mul_left_comm]
theorem G_step (b : Nat) : ∀ z, G (b + 1) z = G b z + (z / 4 ^ b) % 2 * 2 ^ b := by
  induction b with
  | zero => intro x; simp [G]
  | succ b ih =>
    intro x
    have h := ih (x / 4)
    rw [div_pow4] at h
    show x % 2 + 2 * G (b + 1) (x / 4) = x % 2 + 2 * G b (x / 4) + _
    rw [h, Int.pow_succ 2 b]
    generalize (x / 4 ^ (b + 1)) % 2 = y
    generalize (2 : Int) ^ b = p
    rw [Int.mul_add, ← Int.add_assoc]; congr 1
    rw [Int.mul_comm p 2, Int.mul_left_comm]
theorem L_G (n : Nat) : ∀ z, L n (G n (z / 2)) (G n z) = z % 4 ^ n := by
  induction n with
  | zero => intro z; simp [L]
  | succ n ih =>
    intro z
    have e1 : G (n + 1) (z / 2) % 2 = z / 2 % 2 := by simp only [G]; omega
    have e2 : G (n + 1) (z / 2) / 2 = G n (z / 4 / 2) := by simp only [G]; rw [show z / 2 / 4 = z / 4 / 2 by omega]; omega
    have e3 : G (n + 1) z % 2 = z % 2 := by simp only [G]; omega
    have e4 : G (n + 1) z / 2 = G n (z / 4) := by simp only [G]; omega
    simp only [L]
    rw [e1, e2, e3, e4, ih (z / 4)]
    have hp : (0 : Int) < 4 ^ n := Int.pow_pos (by omega)
    have h5 : z % 4 ^ (n + 1) = z % 4 + 4 * (z / 4 % 4 ^ n) := by
      rw [Int.pow_succ, Int.mul_comm, mod_mul _ _ _ (by omega) hp]
    rw [h5]; omega
theorem G_L (n : Nat) : ∀ i j, G n (L n i j) = j % 2 ^ n ∧ G n (L n i j / 2) = i % 2 ^ n := by
  induction n with
  | zero => intro i j; simp [G]
  | succ n ih =>
    intro i j
    obtain ⟨h1, h2⟩ := ih (i / 2) (j / 2)
    have e1 : L (n + 1) i j % 2 = j % 2 := by simp only [L]; omega
    have e2 : L (n + 1) i j / 4 = L n (i / 2) (j / 2) := by simp only [L]; omega
    have e3 : L (n + 1) i j / 2 % 2 = i % 2 := by simp only [L]; omega
    have e4 : L (n + 1) i j / 2 / 4 = L n (i / 2) (j / 2) / 2 := by simp only [L]; omega
    have hp : (0 : Int) < 2 ^ n := Int.pow_pos (by omega)
    constructor
    · simp only [G]; rw [e1, e2, h1, Int.pow_succ, Int.mul_comm _ 2, mod_mul _ _ _ (by omega) hp]
    · simp only [G]; rw [e3, e4, h2, Int.pow_succ, Int.mul_comm _ 2, mod_mul _ _ _ (by omega) hp]
theorem or4 (a b s t : Nat) (hs : s < 2) (ht : t < 2) : (4 * a + s) ||| (4 * b + 2 * t) = 4 * (a ||| b) + (s + 2 * t) := by
  apply Nat.eq_of_testBit_eq
  intro k
  have c : ∀ (x r : Nat), r < 4 → (4 * x + r).testBit k = if k < 2 then r.testBit k else x.testBit (k - 2) := fun x r hr => by
    have := Nat.testBit_two_pow_mul_add x (i := 2) (b := r) (by simpa using hr) k
    simpa using this
  rw [Nat.testBit_or, c _ _ (by omega), c _ _ (by omega), c _ _ (by omega), Nat.testBit_or]
  split
  · obtain rfl | rfl : s = 0 ∨ s = 1 := by omega
    all_goals obtain rfl | rfl : t = 0 ∨ t = 1 := by omega
    all_goals obtain rfl | rfl : k = 0 ∨ k = 1 := by omega
    all_goals decide
  · rfl
theorem or_S (n : Nat) : ∀ i j, (S n j).toNat ||| (2 * S n i).toNat = (L n i j).toNat := by
  induction n with
  | zero => intro i j; simp [S, L]
  | succ n ih =>
    intro i j
    have h := ih (i / 2) (j / 2)
    have b1 := S_bd n (i / 2)
    have b2 := S_bd n (j / 2)
    have b3 := L_bd n (i / 2) (j / 2)
    simp only [S, L]
    have e1 : (j % 2 + 4 * S n (j / 2)).toNat = 4 * (S n (j / 2)).toNat + (j % 2).toNat := by omega
    have e2 : (2 * (i % 2 + 4 * S n (i / 2))).toNat = 4 * (2 * S n (i / 2)).toNat + 2 * (i % 2).toNat := by omega
    rw [e1, e2, or4 _ _ _ _ (by omega) (by omega), h]
    omega
-- What the printed functions of the package morton come to.
theorem p4 (b : Nat) : (0 : Int) < 4 ^ b := Int.pow_pos (by omega)
theorem p2 (b : Nat) : (0 : Int) < 2 ^ b := Int.pow_pos (by omega)
theorem p22 (b : Nat) : (2 : Int) ^ (2 * b) = 4 ^ b := by rw [Int.pow_mul]; rfl
theorem p4_le {b : Nat} (h : b ≤ 15) : (4 : Int) ^ b ≤ 1073741824 := by
  have := Nat.pow_le_pow_right (n := 4) (by omega) h
  have h2 : ((4 ^ b : Nat) : Int) ≤ ((4 ^ 15 : Nat) : Int) := by exact_mod_cast this
  simpa using h2
theorem p2_le {b : Nat} (h : b ≤ 15) : (2 : Int) ^ b ≤ 32768 := by
  have := Nat.pow_le_pow_right (n := 2) (by omega) h
  have h2 : ((2 ^ b : Nat) : Int) ≤ ((2 ^ 15 : Nat) : Int) := by exact_mod_cast this
  simpa using h2
theorem or_join (i : Nat) (y x : Int) (hy : 0 ≤ y) (hy' : y < 2 ^ i) (hx : 0 ≤ x) (hx' : x % 2 ^ i = 0) (h1 : y < 2 ^ 63) (h2 : x < 2 ^ 63) : Go.bits .or .i64 y x = y + x := by
  have h := bits_join .i64 63 (by decide) wraps_i64 i x y hx hx' h2 hy hy' h1
  rw [or_i64 _ _ hx h2 hy h1] at h
  rw [or_i64 _ _ hy h1 hx h2, Nat.or_comm, h]; omega
theorem shr_at (n : Int) (b : Nat) (h : b ≤ 64) : shr .i64 n (b : Int) = n / 2 ^ b := by
  unfold shr; rw [Nat.min_eq_left (by show b ≤ 64; exact h)]; rfl
theorem shl_at (y : Int) (b : Nat) (h : b ≤ 64) (h0 : 0 ≤ y * 2 ^ b) (h1 : y * 2 ^ b < 2 ^ 63) : shl .i64 y (b : Int) = y * 2 ^ b := by
  unfold shl; rw [Nat.min_eq_left (by show b ≤ 64; exact h)]; exact wraps_i64 _ h0 h1
theorem spread_l (n : Int) (d : Nat) : ∀ b : Nat, b + d = 16 → Ev (fun k => morton_spread.l0 k n (S b n) b) (S 16 n) := by
  induction d with
  | zero =>
    intro b hb
    obtain rfl : b = 16 := by omega
    refine Ev.step (f := fun _ => some (S 16 n)) (fun k => ?_) (Ev.now _)
    simp only [morton_spread.l0]; rw [if_neg (by omega)]
  | succ d ih =>
    intro b hb
    have hb15 : b ≤ 15 := by omega
    refine Ev.step (f := fun k => morton_spread.l0 k n (S (b + 1) n) ((b + 1 : Nat) : Int)) (fun k => ?_) (ih (b + 1) (by omega))
    have h1 := p4 b
    have h2 := p4_le hb15
    have h3 := S_bd b n
    have e1 : wrap64 (2 * (b : Int)) = ((2 * b : Nat) : Int) := by rw [w64 (by omega) (by omega)]; omega
    have e2 : wrap64 ((b : Int) + 1) = ((b + 1 : Nat) : Int) := by rw [w64 (by omega) (by omega)]; omega
    have e3 : n / 2 ^ b % 2 = 0 ∨ n / 2 ^ b % 2 = 1 := by omega
    have e4 : n / 2 ^ b % 2 * 4 ^ b = 0 ∨ n / 2 ^ b % 2 * 4 ^ b = 4 ^ b := by rcases e3 with e | e <;> simp [e]
    simp only [morton_spread.l0]
    rw [if_pos (by omega), if_pos (by omega), e1, if_pos (by omega), shr_at _ _ (by omega), and1_i64, e2, S_step]
    rw [shl_at _ _ (by omega) (by rw [p22]; omega) (by rw [p22]; omega), p22]
    rw [or_join (2 * b) _ _ h3.1 (by rw [p22]; omega) (by omega) (by rw [p22]; exact Int.mul_emod_left _ _) (by omega) (by omega)]
theorem spread_ev (n : Int) : Ev (fun k => morton_spread.f k n) (S 16 n) := spread_l n 16 0 rfl
theorem inter_ev (i j : Int) : Ev (fun k => morton_Interleave.f k i j) (L 16 i j) := by
  refine Ev.bind (spread_ev j) (Ev.bind (f := fun _ t => some (Go.bits .or .i64 (S 16 j) (wrap64 (t * 2)))) (spread_ev i) ?_)
  have h1 := S_bd 16 i
  have h2 := S_bd 16 j
  have h3 := L_bd 16 i j
  have h4 := or_S 16 i j
  rw [show (4 : Int) ^ 16 = 4294967296 by decide] at h1 h2 h3
  rw [w64 (by omega) (by omega), or_i64 _ _ h2.1 (by omega) (by omega) (by omega), Int.mul_comm _ 2, h4, Int.toNat_of_nonneg h3.1]
  exact Ev.now _
/-- A place's number. -/
def idx (i j t : Int) : Int := L 16 (i / t) (j / t) * t * t + i % t * t + j % t
theorem eight {t : Int} (h1 : 1 ≤ t) (h8 : t ≤ 8) : t = 1 ∨ t = 2 ∨ t = 3 ∨ t = 4 ∨ t = 5 ∨ t = 6 ∨ t = 7 ∨ t = 8 := by omega
theorem idx_wrap (l i j t : Int) (hl0 : 0 ≤ l) (hl : l < 4294967296) (hi : 0 ≤ i) (hj : 0 ≤ j) (h1 : 1 ≤ t) (h8 : t ≤ 8) :
    wrap64 ((wrap64 ((wrap64 ((wrap64 (l * t)) * t)) + (wrap64 ((Int.tmod i t) * t)))) + (Int.tmod j t)) = l * t * t + i % t * t + j % t := by
  rw [Int.tmod_eq_emod_of_nonneg hi, Int.tmod_eq_emod_of_nonneg hj]
  rcases eight h1 h8 with rfl | rfl | rfl | rfl | rfl | rfl | rfl | rfl
  all_goals
    rw [w64 (x := l * _) (by omega) (by omega), w64 (x := l * _ * _) (by omega) (by omega), w64 (x := i % _ * _) (by omega) (by omega), w64 (x := _ + _ * _) (by omega) (by omega), w64 (by omega) (by omega)]
theorem tdiv_at {i t : Int} (hi : 0 ≤ i) (hi' : i < 9223372036854775808) (h1 : 1 ≤ t) : wrap64 (Int.tdiv i t) = i / t := by
  rw [Int.tdiv_eq_ediv_of_nonneg hi]
  have h2 : 0 ≤ i / t := Int.ediv_nonneg hi (by omega)
  have h3 : i / t ≤ i := Int.ediv_le_self _ hi
  exact w64 (by omega) (by omega)
theorem index_ev (i j t : Int) (hi : 0 ≤ i) (hi' : i < 65536) (hj : 0 ≤ j) (hj' : j < 65536) (h1 : 1 ≤ t) (h8 : t ≤ 8) : Ev (fun k => morton_Index.f k i j t) (idx i j t) := by
  refine Ev.congr (f := fun k => (morton_Interleave.f k (i / t) (j / t)).bind fun l => some (wrap64 ((wrap64 ((wrap64 ((wrap64 (l * t)) * t)) + (wrap64 ((Int.tmod i t) * t)))) + (Int.tmod j t)))) (fun k => ?_) ?_
  · unfold morton_Index.f
    rw [if_neg (by omega), if_neg (by omega), if_neg (by omega), if_neg (by omega), if_neg (by omega), if_neg (by omega), if_neg (by omega), tdiv_at hi (by omega) h1, tdiv_at hj (by omega) h1]
  · refine Ev.bind (inter_ev _ _) ?_
    have h3 := L_bd 16 (i / t) (j / t)
    rw [show (4 : Int) ^ 16 = 4294967296 by decide] at h3
    rw [idx_wrap _ _ _ _ h3.1 h3.2 hi hj h1 h8]
    exact Ev.now _
theorem index_out (i j t : Int) (h : i < 0 ∨ 65536 ≤ i ∨ j < 0 ∨ 65536 ≤ j ∨ t < 1 ∨ 8 < t) : Ev (fun k => morton_Index.f k i j t) (-1) := by
  refine Ev.congr (f := fun _ => some (-1)) (fun k => ?_) (Ev.now _)
  unfold morton_Index.f
  by_cases a : i < 0
  · rw [if_pos a]
  rw [if_neg a]
  by_cases a : i ≥ 65536
  · rw [if_pos a]
  rw [if_neg a]
  by_cases a : j < 0
  · rw [if_pos a]
  rw [if_neg a]
  by_cases a : j ≥ 65536
  · rw [if_pos a]
  rw [if_neg a]
  by_cases a : t < 1
  · rw [if_pos a]
  rw [if_neg a, if_pos (by omega)]
theorem alive16 : Ev (fun k => vernierlaw16_alive.f k) true := by
  refine Ev.bind (inter_ev 1 1) ?_
  rw [show L 16 1 1 = 3 by decide +kernel]
  simp only [if_true]
  refine Ev.bind (f := fun _ t => some (t == 1)) (index_ev 0 1 1 (by omega) (by omega) (by omega) (by omega) (by omega) (by omega)) ?_
  rw [show idx 0 1 1 = 1 by decide +kernel]
  exact Ev.now _
theorem L_inj {i j k l : Int} (hi : 0 ≤ i) (hi' : i < 65536) (hj : 0 ≤ j) (hj' : j < 65536) (hk : 0 ≤ k) (hk' : k < 65536) (hl : 0 ≤ l) (hl' : l < 65536) (h : L 16 i j = L 16 k l) : i = k ∧ j = l := by
  have h1 := G_L 16 i j
  have h2 := G_L 16 k l
  rw [h] at h1
  rw [show (2 : Int) ^ 16 = 65536 by decide] at h1 h2
  omega
theorem idx_inj {i j k l t : Int} (hi : 0 ≤ i) (hi' : i < 65536) (hj : 0 ≤ j) (hj' : j < 65536) (hk : 0 ≤ k) (hk' : k < 65536) (hl : 0 ≤ l) (hl' : l < 65536) (h1 : 1 ≤ t) (h8 : t ≤ 8) (h : idx i j t = idx k l t) : i = k ∧ j = l := by
  have c := @L_inj (i / t) (j / t) (k / t) (l / t)
  unfold idx at h
  generalize L 16 (i / t) (j / t) = x at *
  generalize L 16 (k / t) (l / t) = y at *
  rcases eight h1 h8 with rfl | rfl | rfl | rfl | rfl | rfl | rfl | rfl
  all_goals
    have := c (by omega) (by omega) (by omega) (by omega) (by omega) (by omega) (by omega) (by omega) (by omega)
    omega
-- A list filled row by row.
def fillP (r c : Nat) (g : Nat → Int) (i j : Nat) : List Int := mk (r * c) (fun k => if k / c < i ∨ (k / c = i ∧ k % c < j) then g k else 0)
theorem fillP_len (r c : Nat) (g : Nat → Int) (i j : Nat) : (fillP r c g i j).length = r * c := mk_len _ _
theorem fillP_set (r c : Nat) (g : Nat → Int) (i j : Nat) (hj : j < c) : (fillP r c g i j).set (i * c + j) (g (i * c + j)) = fillP r c g i (j + 1) := by
  unfold fillP
  rw [mk_set]
  refine mk_congr (fun k hk => ?_)
  have hc : k % c < c := mod_lt_of hk
  by_cases e : k = i * c + j
  · rw [if_pos e, e, place_mod hj, place_div hj, if_pos (by omega)]
  · rw [if_neg e]
    have hne : ¬ (k / c = i ∧ k % c = j) := fun h => e (by rw [← h.1, ← h.2]; exact (place_of k c).symm)
    generalize k / c = q at *
    generalize k % c = m at *
    by_cases h : q < i ∨ (q = i ∧ m < j)
    · rw [if_pos h, if_pos (by omega)]
    · rw [if_neg h, if_neg (by omega)]
theorem fillP_row (r c : Nat) (g : Nat → Int) (i : Nat) : fillP r c g i c = fillP r c g (i + 1) 0 := by
  refine mk_congr (fun k hk => ?_)
  have hc : k % c < c := mod_lt_of hk
  generalize k / c = q at *
  generalize k % c = m at *
  by_cases h : q < i + 1
  · rw [if_pos (by omega), if_pos (by omega)]
  · rw [if_neg (by omega), if_neg (by omega)]
theorem fillP_end (r c : Nat) (g : Nat → Int) : fillP r c g r 0 = mk (r * c) g := by
  refine mk_congr (fun k hk => ?_)
  have hr : k / c < r := div_lt_of hk
  rw [if_pos (.inl hr)]
theorem fillP_zero (r c : Nat) (g : Nat → Int) : fillP r c g 0 0 = List.replicate (r * c) 0 := by
  rw [mk_const]
  refine mk_congr (fun k hk => ?_)
  generalize k / c = q
  rw [if_neg (by omega)]
theorem L_small (n : Nat) : ∀ (e : Nat) (i j : Int), 0 ≤ i → i < 2 ^ e → 0 ≤ j → j < 2 ^ e → L n i j < 4 ^ e := by
  induction n with
  | zero => intro e i j _ _ _ _; have := p4 e; simpa [L] using this
  | succ n ih =>
    intro e i j hi hi' hj hj'
    cases e with
    | zero =>
      have := ih 0 0 0 (by omega) (by omega) (by omega) (by omega)
      obtain rfl : i = 0 := by omega
      obtain rfl : j = 0 := by omega
      simp only [L]; simp at this ⊢; omega
    | succ e =>
      have := ih e (i / 2) (j / 2) (by omega) (by rw [Int.pow_succ] at hi'; omega) (by omega) (by rw [Int.pow_succ] at hj'; omega)
      simp only [L, Int.pow_succ]; omega
theorem idx_bd (s i j t : Int) (e : Nat) (hs : s = 2 ^ e) (hi : 0 ≤ i) (hj : 0 ≤ j) (h1 : 1 ≤ t) (h8 : t ≤ 8) (his : i < s * t) (hjs : j < s * t) : 0 ≤ idx i j t ∧ idx i j t < s * s * t * t := by
  have hb := L_bd 16 (i / t) (j / t)
  have hs4 : s * s = 4 ^ e := by rw [hs, ← p22 e, Nat.two_mul, Int.pow_add]
  have hl : L 16 (i / t) (j / t) < 4 ^ e := L_small 16 e _ _ (Int.ediv_nonneg hi (by omega)) (by rw [← hs]; exact Int.ediv_lt_of_lt_mul (by omega) his) (Int.ediv_nonneg hj (by omega)) (by rw [← hs]; exact Int.ediv_lt_of_lt_mul (by omega) hjs)
  rw [← hs4] at hl
  unfold idx
  generalize L 16 (i / t) (j / t) = x at *
  generalize s * s = q at *
  rcases eight h1 h8 with rfl | rfl | rfl | rfl | rfl | rfl | rfl | rfl
  all_goals omega
def okTile (r c t : Int) : Prop := 1 ≤ r ∧ r ≤ 64 ∧ 1 ≤ c ∧ c ≤ 64 ∧ 1 ≤ t ∧ t ≤ 8
instance (r c t : Int) : Decidable (okTile r c t) := by unfold okTile; infer_instance
theorem odd_eq (r c t : Int) : morton_odd.f r c t = some (!decide (okTile r c t)) := by
  unfold morton_odd.f
  by_cases a : r < 1
  · rw [if_pos a, decide_eq_false (fun h : okTile r c t => by have := h.1; omega)]; rfl
  rw [if_neg a]
  by_cases b : r > 64
  · rw [if_pos b, decide_eq_false (fun h : okTile r c t => by have := h.2.1; omega)]; rfl
  rw [if_neg b]
  by_cases d : c < 1
  · rw [if_pos d, decide_eq_false (fun h : okTile r c t => by have := h.2.2.1; omega)]; rfl
  rw [if_neg d]
  by_cases e : c > 64
  · rw [if_pos e, decide_eq_false (fun h : okTile r c t => by have := h.2.2.2.1; omega)]; rfl
  rw [if_neg e]
  by_cases f : t < 1
  · rw [if_pos f, decide_eq_false (fun h : okTile r c t => by have := h.2.2.2.2.1; omega)]; rfl
  rw [if_neg f]
  by_cases g : t > 8
  · rw [decide_eq_true g, decide_eq_false (fun h : okTile r c t => by have := h.2.2.2.2.2; omega)]; rfl
  · rw [decide_eq_false g, decide_eq_true (show okTile r c t by unfold okTile; omega)]; rfl
theorem pe {d e : Nat} (h : e + d = 6) : (1 : Int) ≤ 2 ^ e ∧ (2 : Int) ^ e ≤ 64 := by
  rcases (by omega : e = 0 ∨ e = 1 ∨ e = 2 ∨ e = 3 ∨ e = 4 ∨ e = 5 ∨ e = 6) with rfl | rfl | rfl | rfl | rfl | rfl | rfl <;> decide
theorem two_pow_wrap {t : Int} (ht1 : 1 ≤ t) (ht2 : t ≤ 8) (e : Nat) (he : e ≤ 6) : wrap64 (2 ^ e * t) = 2 ^ e * t ∧ wrap64 (2 ^ e * 2) = 2 ^ (e + 1) ∧ wrap64 (2 * 2 ^ e) = 2 ^ (e + 1) := by
  rcases (by omega : e = 0 ∨ e = 1 ∨ e = 2 ∨ e = 3 ∨ e = 4 ∨ e = 5 ∨ e = 6) with rfl | rfl | rfl | rfl | rfl | rfl | rfl
  all_goals exact ⟨w64 (by omega) (by omega), by decide +kernel, by decide +kernel⟩
/-- A side, doubled till it is enough. -/
inductive Till (r c t : Int) : Nat → Nat → Prop
  | stop {e : Nat} : r ≤ 2 ^ e * t → c ≤ 2 ^ e * t → Till r c t e e
  | more {e e' : Nat} : e < 6 → ¬ (r ≤ 2 ^ e * t ∧ c ≤ 2 ^ e * t) → Till r c t (e + 1) e' → Till r c t e e'
theorem till_ex {r c t : Int} (ok : okTile r c t) (d : Nat) : ∀ e : Nat, e + d = 6 → ∃ e' : Nat, e' ≤ 6 ∧ r ≤ 2 ^ e' * t ∧ c ≤ 2 ^ e' * t ∧ Till r c t e e' := by
  obtain ⟨hr1, hr2, hc1, hc2, ht1, ht2⟩ := ok
  induction d with
  | zero =>
    intro e he
    obtain rfl : e = 6 := by omega
    exact ⟨6, by omega, by omega, by omega, .stop (by omega) (by omega)⟩
  | succ d ih =>
    intro e he
    by_cases h : r ≤ 2 ^ e * t ∧ c ≤ 2 ^ e * t
    · exact ⟨e, by omega, h.1, h.2, .stop h.1 h.2⟩
    · obtain ⟨e', h1, h2, h3, h4⟩ := ih (e + 1) (by omega)
      exact ⟨e', h1, h2, h3, .more (by omega) h h4⟩
theorem side_l {r c t : Int} (ht1 : 1 ≤ t) (ht2 : t ≤ 8) {e e' : Nat} (h : Till r c t e e') (he : e ≤ 6) : Ev (fun k => morton_Side.l0 k r c t (2 ^ e)) (2 ^ e', 0) := by
  induction h with
  | @stop e h1 h2 =>
    obtain ⟨w1, _, _⟩ := two_pow_wrap ht1 ht2 e he
    refine Ev.no (fun k => ?_)
    simp only [morton_Side.l0]; rw [w1, if_neg (by unfold mx; split <;> omega)]
  | @more e e' h1 h2 _ ih =>
    obtain ⟨w1, w2, w3⟩ := two_pow_wrap ht1 ht2 e he
    refine Ev.step (fun k => ?_) (ih (by omega))
    simp only [morton_Side.l0]; rw [w1, if_pos (by unfold mx; split <;> omega), w2]
theorem size_wrap {s t : Int} (h1 : 1 ≤ s) (h2 : s ≤ 64) (h3 : 1 ≤ t) (h4 : t ≤ 8) : wrap64 ((wrap64 ((wrap64 (s * s)) * t)) * t) = s * s * t * t ∧ 0 ≤ s * s * t * t ∧ s * s * t * t ≤ 262144 := by
  have hq : 0 ≤ s * s ∧ s * s ≤ 4096 := ⟨Int.mul_nonneg (by omega) (by omega), by have := Int.mul_le_mul h2 h2 (by omega) (by omega); omega⟩
  generalize s * s = q at *
  rcases eight h3 h4 with rfl | rfl | rfl | rfl | rfl | rfl | rfl | rfl
  all_goals
    rw [w64 (x := q) (by omega) (by omega), w64 (x := q * _) (by omega) (by omega), w64 (by omega) (by omega)]
    omega
/-- A layout that may be: its side is a power of two, as the law's. -/
theorem size_ok {r c t : Int} (ok : okTile r c t) : ∃ e : Nat, e ≤ 6 ∧ r ≤ 2 ^ e * t ∧ c ≤ 2 ^ e * t ∧ Ev (fun k => morton_Side.f k r c t) (2 ^ e, 0) ∧ Ev (fun k => morton_Size.f k r c t) (2 ^ e * 2 ^ e * t * t, 0) ∧ Till r c t 0 e := by
  obtain ⟨e, he, h1, h2, h4⟩ := till_ex ok 6 0 rfl
  have h3 := side_l ok.2.2.2.2.1 ok.2.2.2.2.2 h4 (by omega)
  have hp := pe (d := 6 - e) (e := e) (by omega)
  have hS : Ev (fun k => morton_Side.f k r c t) (2 ^ e, 0) := by
    refine Ev.congr (f := fun k => morton_Side.l0 k r c t 1) (fun k => ?_) h3
    unfold morton_Side.f
    rw [odd_eq, Option.bind_some, decide_eq_true ok, if_neg (by decide)]
  refine ⟨e, he, h1, h2, hS, ?_, h4⟩
  refine Ev.bind hS ?_
  obtain ⟨_, _, _, _, ht1, ht2⟩ := ok
  rw [(size_wrap hp.1 hp.2 ht1 ht2).1]
  exact Ev.now _
theorem size_no {r c t : Int} (ok : ¬ okTile r c t) : Ev (fun k => morton_Side.f k r c t) (0, 11) ∧ Ev (fun k => morton_Size.f k r c t) (0, 11) := by
  have hS : Ev (fun k => morton_Side.f k r c t) (0, 11) := by
    refine Ev.congr (f := fun k => some (0, 11)) (fun k => ?_) (Ev.now _)
    unfold morton_Side.f
    rw [odd_eq, Option.bind_some, decide_eq_false ok, if_pos (by decide)]
  refine ⟨hS, Ev.bind hS ?_⟩
  rw [show wrap64 ((wrap64 ((wrap64 ((0 : Int) * 0)) * t)) * t) = 0 by simp [wrap64]]
  exact Ev.now _
-- What the printed functions of the package shape come to.
def okMat (m n : Int) (l : List Int) : Prop := 1 ≤ m ∧ m ≤ 64 ∧ 1 ≤ n ∧ n ≤ 64 ∧ (l.length : Int) = m * n
instance (m n : Int) (l : List Int) : Decidable (okMat m n l) := by unfold okMat; infer_instance
theorem prod_le {m n : Int} (h0 : 1 ≤ m) (h1 : m ≤ 64) (h2 : 1 ≤ n) (h3 : n ≤ 64) : 1 ≤ m * n ∧ m * n ≤ 4096 := by
  constructor
  · have := Int.mul_le_mul h0 h2 (by omega) (by omega); omega
  · have := Int.mul_le_mul h1 h3 (by omega) (by omega); omega
theorem wprod {m n : Int} (h0 : 1 ≤ m) (h1 : m ≤ 64) (h2 : 1 ≤ n) (h3 : n ≤ 64) : wrap64 (m * n) = m * n := by
  have := prod_le h0 h1 h2 h3; exact w64 (by omega) (by omega)
theorem side_eq (n : Int) : shape_side.f n = some (decide (1 ≤ n ∧ n ≤ 64)) := by
  unfold shape_side.f
  by_cases h : n ≥ 1
  · rw [if_pos h]; congr 1; rw [decide_eq_decide]; omega
  · rw [if_neg h]; congr 1; rw [eq_comm, decide_eq_false_iff_not]; omega
theorem check_eq (m n : Int) (l : List Int) : shape_Check.f m n l = some (if okMat m n l then 0 else 11) := by
  unfold shape_Check.f
  rw [side_eq, Option.bind_some]
  by_cases h1 : 1 ≤ m ∧ m ≤ 64
  · rw [decide_eq_true h1, if_pos rfl, side_eq, Option.bind_some]
    by_cases h2 : 1 ≤ n ∧ n ≤ 64
    · rw [decide_eq_true h2, if_pos rfl, wprod h1.1 h1.2 h2.1 h2.2]
      by_cases h3 : (l.length : Int) = m * n
      · rw [if_pos h3, if_pos (show okMat m n l from ⟨h1.1, h1.2, h2.1, h2.2, h3⟩)]
      · rw [if_neg h3, if_neg (fun h : okMat m n l => h3 h.2.2.2.2)]
    · rw [decide_eq_false h2, if_neg (by decide), if_neg (fun h : okMat m n l => h2 ⟨h.2.2.1, h.2.2.2.1⟩)]
  · rw [decide_eq_false h1, if_neg (by decide), if_neg (fun h : okMat m n l => h1 ⟨h.1, h.2.1⟩)]
theorem new_ok {m n : Int} (h0 : 1 ≤ m) (h1 : m ≤ 64) (h2 : 1 ≤ n) (h3 : n ≤ 64) : shape_New.f m n = some (m, n, List.replicate (m * n).toNat 0, 0) := by
  have hp := prod_le h0 h1 h2 h3
  unfold shape_New.f
  rw [side_eq, Option.bind_some, decide_eq_true ⟨h0, h1⟩, if_pos rfl, side_eq, Option.bind_some, decide_eq_true ⟨h2, h3⟩, if_pos rfl, wprod h0 h1 h2 h3, if_pos (by omega), if_pos (by omega)]
-- What morton.From comes to: each place's word.
def untile (r c : Nat) (t : Int) (w : List Int) : List Int := mk (r * c) (fun k => rd w (idx ((k / c : Nat) : Int) ((k % c : Nat) : Int) t))
theorem from_inner (r c : Nat) (t : Int) (w : List Int) (e : Nat) (hr : r ≤ 64) (hc : c ≤ 64) (ht1 : 1 ≤ t) (ht8 : t ≤ 8) (hrs : (r : Int) ≤ 2 ^ e * t) (hcs : (c : Int) ≤ 2 ^ e * t) (hw : (w.length : Int) = 2 ^ e * 2 ^ e * t * t) (R : Int × Int × List Int × Int) (i : Nat) (hi : i < r)
    (next : Ev (fun k => morton_From.l0 k w c t 0 r ((i + 1 : Nat) : Int) r c (fillP r c (fun k => rd w (idx ((k / c : Nat) : Int) ((k % c : Nat) : Int) t)) (i + 1) 0)) R) (d : Nat) :
    ∀ j : Nat, j + d = c → Ev (fun k => morton_From.l1 k w c t 0 i r i c j r c (fillP r c (fun k => rd w (idx ((k / c : Nat) : Int) ((k % c : Nat) : Int) t)) i j)) R := by
  have hb : r * c ≤ 64 * 64 := Nat.mul_le_mul hr hc
  induction d with
  | zero =>
    intro j hj
    obtain rfl : j = c := by omega
    refine Ev.step (f := fun k => morton_From.l0 k w j t 0 r ((i + 1 : Nat) : Int) r j (fillP r j (fun k => rd w (idx ((k / j : Nat) : Int) ((k % j : Nat) : Int) t)) (i + 1) 0)) (fun k => ?_) next
    simp only [morton_From.l1]; rw [if_neg (by omega), wsucc _ (by omega), fillP_row]
  | succ d ih =>
    intro j hj
    have hjc : j < c := by omega
    have h1 := place_lt (i := i) (j := j) hi hjc
    have hx := idx_bd (2 ^ e) (i : Int) (j : Int) t e rfl (by omega) (by omega) ht1 ht8 (by omega) (by omega)
    have hg : rd w (idx (i : Int) (j : Int) t) = (fun k : Nat => rd w (idx ((k / c : Nat) : Int) ((k % c : Nat) : Int) t)) (i * c + j) := by
      simp only [place_div hjc, place_mod hjc]
    refine Ev.step (f := fun k => (morton_Index.f k i j t).bind fun x => if 0 ≤ x then if x < (w.length : Int) then morton_From.l1 k w c t 0 i r i c ((j + 1 : Nat) : Int) r c ((fillP r c (fun k => rd w (idx ((k / c : Nat) : Int) ((k % c : Nat) : Int) t)) i j).set (i * c + j) (rd w x)) else none else none) (fun k => ?_) ?_
    · simp only [morton_From.l1]
      rw [if_pos (by omega)]
      congr 1; funext x
      rw [wmul i c (by omega), wadd _ _ (by omega), wsucc _ (by omega)]
      by_cases hx0 : 0 ≤ x
      · rw [if_pos hx0, if_pos hx0]
        by_cases hx1 : x < (w.length : Int)
        · rw [if_pos hx1, if_pos hx1, if_pos (by omega), if_pos (by rw [fillP_len]; omega), Int.toNat_natCast]
        · rw [if_neg hx1, if_neg hx1]
      · rw [if_neg hx0, if_neg hx0]
    · refine Ev.bind (index_ev (i : Int) (j : Int) t (by omega) (by omega) (by omega) (by omega) ht1 ht8) ?_
      simp only [if_pos hx.1, if_pos (show idx (i : Int) (j : Int) t < (w.length : Int) by rw [hw]; exact hx.2)]
      rw [hg, fillP_set _ _ _ _ _ hjc]
      exact ih (j + 1) (by omega)
theorem from_outer (r c : Nat) (t : Int) (w : List Int) (e : Nat) (hr : r ≤ 64) (hc : c ≤ 64) (ht1 : 1 ≤ t) (ht8 : t ≤ 8) (hrs : (r : Int) ≤ 2 ^ e * t) (hcs : (c : Int) ≤ 2 ^ e * t) (hw : (w.length : Int) = 2 ^ e * 2 ^ e * t * t) (d : Nat) :
    ∀ i : Nat, i + d = r → Ev (fun k => morton_From.l0 k w c t 0 r i r c (fillP r c (fun k => rd w (idx ((k / c : Nat) : Int) ((k % c : Nat) : Int) t)) i 0)) ((r : Int), (c : Int), untile r c t w, 0) := by
  induction d with
  | zero =>
    intro i hi
    obtain rfl : i = r := by omega
    refine Ev.no (fun k => ?_)
    simp only [morton_From.l0]; rw [if_neg (by omega), fillP_end]; rfl
  | succ d ih =>
    intro i hi
    refine Ev.step (f := fun k => morton_From.l1 k w c t 0 i r i c ((0 : Nat) : Int) r c (fillP r c (fun k => rd w (idx ((k / c : Nat) : Int) ((k % c : Nat) : Int) t)) i 0)) (fun k => ?_) (from_inner r c t w e hr hc ht1 ht8 hrs hcs hw _ i (by omega) (ih (i + 1) (by omega)) c 0 (by omega))
    simp only [morton_From.l0]; rw [if_pos (by omega)]; rfl
theorem from_ok {r c : Nat} {t : Int} {w : List Int} {e : Nat} (ok : okTile r c t) (hrs : (r : Int) ≤ 2 ^ e * t) (hcs : (c : Int) ≤ 2 ^ e * t) (hS : Ev (fun k => morton_Size.f k r c t) (2 ^ e * 2 ^ e * t * t, 0)) (hw : (w.length : Int) = 2 ^ e * 2 ^ e * t * t) :
    Ev (fun k => morton_From.f k w r c t) ((r : Int), (c : Int), untile r c t w, 0) := by
  obtain ⟨h1, h2, h3, h4, h5, h6⟩ := ok
  refine Ev.bind hS ?_
  simp only [if_true, if_pos hw, new_ok h1 h2 h3 h4, Option.bind_some]
  have := from_outer r c t w e (by omega) (by omega) h5 h6 hrs hcs hw r 0 (by omega)
  rw [fillP_zero, show r * c = ((r : Int) * (c : Int)).toNat by rw [← Int.natCast_mul]; rfl] at this
  exact this
theorem from_long {r c t : Int} {w : List Int} {z : Int} (hS : Ev (fun k => morton_Size.f k r c t) (z, 0)) (hw : (w.length : Int) ≠ z) : Ev (fun k => morton_From.f k w r c t) (0, 0, [], 5) := by
  refine Ev.bind hS ?_
  simp only [if_true, if_neg hw]
  exact Ev.now _
theorem from_no {r c t : Int} {w : List Int} (ok : ¬ okTile r c t) : Ev (fun k => morton_From.f k w r c t) (0, 0, [], 11) := by
  refine Ev.bind (size_no ok).2 ?_
  exact Ev.now _
-- What morton.To comes to: the words put, place by place.
def ixN (c : Nat) (t : Int) (p : Nat) : Nat := (idx ((p / c : Nat) : Int) ((p % c : Nat) : Int) t).toNat
def toL (n : Nat) (c : Nat) (t : Int) (l : List Int) : Nat → List Int
  | 0 => List.replicate n 0
  | p + 1 => (toL n c t l p).set (ixN c t p) (l.getD p 0)
theorem toL_len (n c : Nat) (t : Int) (l : List Int) : ∀ p, (toL n c t l p).length = n
  | 0 => by simp [toL]
  | p + 1 => by simp [toL, toL_len n c t l p]
theorem ixN_bd {r c : Nat} {t : Int} {e : Nat} (ht1 : 1 ≤ t) (ht8 : t ≤ 8) (hrs : (r : Int) ≤ 2 ^ e * t) (hcs : (c : Int) ≤ 2 ^ e * t) {n : Nat} (hn : (n : Int) = 2 ^ e * 2 ^ e * t * t) {p : Nat} (hp : p < r * c) : ixN c t p < n ∧ ((ixN c t p : Nat) : Int) = idx ((p / c : Nat) : Int) ((p % c : Nat) : Int) t := by
  have h1 : p / c < r := div_lt_of hp
  have h2 : p % c < c := mod_lt_of hp
  unfold ixN
  generalize p / c = u at *
  generalize p % c = v at *
  have hx := idx_bd (2 ^ e) (u : Int) (v : Int) t e rfl (by omega) (by omega) ht1 ht8 (by omega) (by omega)
  rw [← hn] at hx
  omega
theorem ixN_inj {r c : Nat} {t : Int} (hr : r ≤ 64) (hc : c ≤ 64) (ht1 : 1 ≤ t) (ht8 : t ≤ 8) {e : Nat} (hrs : (r : Int) ≤ 2 ^ e * t) (hcs : (c : Int) ≤ 2 ^ e * t) {n : Nat} (hn : (n : Int) = 2 ^ e * 2 ^ e * t * t) {p q : Nat} (hp : p < r * c) (hq : q < r * c) (h : ixN c t p = ixN c t q) : p = q := by
  have a := (ixN_bd ht1 ht8 hrs hcs hn hp).2
  have b := (ixN_bd ht1 ht8 hrs hcs hn hq).2
  rw [h, b] at a
  have h1 : p / c < r := div_lt_of hp
  have h2 : p % c < c := mod_lt_of hp
  have h3 : q / c < r := div_lt_of hq
  have h4 : q % c < c := mod_lt_of hq
  rw [← place_of p c, ← place_of q c]
  generalize p / c = u at *
  generalize p % c = v at *
  generalize q / c = x at *
  generalize q % c = y at *
  obtain ⟨e1, e2⟩ := idx_inj (by omega) (by omega) (by omega) (by omega) (by omega) (by omega) (by omega) (by omega) ht1 ht8 a
  have e1' : x = u := by exact_mod_cast e1
  have e2' : y = v := by exact_mod_cast e2
  rw [e1', e2']
def cnt (l : List Int) : Nat := l.countP (fun x => decide (x ≠ 0))
theorem getD_set_ne {l : List Int} {i j : Nat} (v : Int) (h : i ≠ j) : (l.set i v).getD j 0 = l.getD j 0 := by
  simp [List.getD_eq_getElem?_getD, List.getElem?_set_ne h]
theorem getD_set_eq {l : List Int} {i : Nat} (v : Int) (h : i < l.length) : (l.set i v).getD i 0 = v := by
  simp [List.getD_eq_getElem?_getD, List.getElem?_set_self h]
theorem cnt_set {l : List Int} {i : Nat} (v : Int) (h : i < l.length) (h0 : l.getD i 0 = 0) : cnt (l.set i v) = cnt l + if v ≠ 0 then 1 else 0 := by
  have e : l[i] = 0 := by rw [List.getD_eq_getElem?_getD, List.getElem?_eq_getElem h] at h0; exact h0
  unfold cnt
  rw [List.countP_set h, e]
  simp
theorem cnt_take {l : List Int} {p : Nat} (h : p < l.length) : cnt (l.take (p + 1)) = cnt (l.take p) + if l.getD p 0 ≠ 0 then 1 else 0 := by
  unfold cnt
  rw [List.take_succ_eq_append_getElem h, List.countP_append, List.getD_eq_getElem?_getD, List.getElem?_eq_getElem h]
  simp [List.countP_cons]
theorem toL_inv {r c : Nat} {t : Int} (hr : r ≤ 64) (hc : c ≤ 64) (ht1 : 1 ≤ t) (ht8 : t ≤ 8) {e : Nat} (hrs : (r : Int) ≤ 2 ^ e * t) (hcs : (c : Int) ≤ 2 ^ e * t) {n : Nat} (hn : (n : Int) = 2 ^ e * 2 ^ e * t * t) (l : List Int) (hl : l.length = r * c) :
    ∀ p, p ≤ r * c → (∀ q, q < p → (toL n c t l p).getD (ixN c t q) 0 = l.getD q 0) ∧ (∀ x, (∀ q, q < p → ixN c t q ≠ x) → (toL n c t l p).getD x 0 = 0) ∧ cnt (toL n c t l p) = cnt (l.take p)
  | 0, _ => by
    refine ⟨fun q hq => absurd hq (by omega), fun x _ => ?_, ?_⟩
    · simp only [toL, List.getD_eq_getElem?_getD, List.getElem?_replicate]; split <;> rfl
    · simp [toL, cnt]
  | p + 1, hp => by
    obtain ⟨h1, h2, h3⟩ := toL_inv hr hc ht1 ht8 hrs hcs hn l hl p (by omega)
    have hb := (ixN_bd ht1 ht8 hrs hcs hn (show p < r * c by omega)).1
    have hz : (toL n c t l p).getD (ixN c t p) 0 = 0 := h2 _ (fun q hq e => by have := ixN_inj hr hc ht1 ht8 hrs hcs hn (show q < r * c by omega) (show p < r * c by omega) e; omega)
    have hlen := toL_len n c t l p
    refine ⟨fun q hq => ?_, fun x hx => ?_, ?_⟩
    · show ((toL n c t l p).set (ixN c t p) (l.getD p 0)).getD (ixN c t q) 0 = _
      by_cases e : q = p
      · subst e; exact getD_set_eq _ (by omega)
      · rw [getD_set_ne _ (fun e' => e (ixN_inj hr hc ht1 ht8 hrs hcs hn (show q < r * c by omega) (show p < r * c by omega) e'.symm))]
        exact h1 q (by omega)
    · show ((toL n c t l p).set (ixN c t p) (l.getD p 0)).getD x 0 = _
      rw [getD_set_ne _ (hx p (by omega))]
      exact h2 x (fun q hq => hx q (by omega))
    · show cnt ((toL n c t l p).set (ixN c t p) (l.getD p 0)) = _
      rw [cnt_set _ (by omega) hz, h3, cnt_take (by omega)]
theorem to_inner (r c : Nat) (t : Int) (l : List Int) (e n : Nat) (hr : r ≤ 64) (hc : c ≤ 64) (ht1 : 1 ≤ t) (ht8 : t ≤ 8) (hrs : (r : Int) ≤ 2 ^ e * t) (hcs : (c : Int) ≤ 2 ^ e * t) (hn : (n : Int) = 2 ^ e * 2 ^ e * t * t) (hl : l.length = r * c) (R : List Int × Int) (i : Nat) (hi : i < r)
    (next : Ev (fun k => morton_To.l0 k t (toL n c t l ((i + 1) * c)) r ((i + 1 : Nat) : Int) r c l) R) (d : Nat) :
    ∀ j : Nat, j + d = c → Ev (fun k => morton_To.l1 k t (toL n c t l (i * c + j)) i r i c j r c l) R := by
  have hb : r * c ≤ 64 * 64 := Nat.mul_le_mul hr hc
  induction d with
  | zero =>
    intro j hj
    obtain rfl : j = c := by omega
    refine Ev.step (f := fun k => morton_To.l0 k t (toL n j t l ((i + 1) * j)) r ((i + 1 : Nat) : Int) r j l) (fun k => ?_) next
    simp only [morton_To.l1]; rw [if_neg (by omega), wsucc _ (by omega), Nat.add_mul, Nat.one_mul]
  | succ d ih =>
    intro j hj
    have hjc : j < c := by omega
    have h1 := place_lt (i := i) (j := j) hi hjc
    have hx := ixN_bd ht1 ht8 hrs hcs hn h1
    rw [place_div hjc, place_mod hjc] at hx
    refine Ev.step (f := fun k => (morton_Index.f k i j t).bind fun x => if 0 ≤ x then if x < (n : Int) then morton_To.l1 k t ((toL n c t l (i * c + j)).set x.toNat (l.getD (i * c + j) 0)) i r i c ((j + 1 : Nat) : Int) r c l else none else none) (fun k => ?_) ?_
    · simp only [morton_To.l1]
      rw [if_pos (by omega)]
      congr 1; funext x
      rw [wmul i c (by omega), wadd _ _ (by omega), wsucc _ (by omega), if_pos (by omega), if_pos (by omega), rd_nat, toL_len]
    · refine Ev.bind (index_ev (i : Int) (j : Int) t (by omega) (by omega) (by omega) (by omega) ht1 ht8) ?_
      rw [← hx.2]
      simp only [if_pos (show (0 : Int) ≤ ((ixN c t (i * c + j) : Nat) : Int) by omega), if_pos (show ((ixN c t (i * c + j) : Nat) : Int) < (n : Int) by omega), Int.toNat_natCast]
      exact ih (j + 1) (by omega)
theorem to_outer (r c : Nat) (t : Int) (l : List Int) (e n : Nat) (hr : r ≤ 64) (hc : c ≤ 64) (ht1 : 1 ≤ t) (ht8 : t ≤ 8) (hrs : (r : Int) ≤ 2 ^ e * t) (hcs : (c : Int) ≤ 2 ^ e * t) (hn : (n : Int) = 2 ^ e * 2 ^ e * t * t) (hl : l.length = r * c) (d : Nat) :
    ∀ i : Nat, i + d = r → Ev (fun k => morton_To.l0 k t (toL n c t l (i * c)) r i r c l) (toL n c t l (r * c), 0) := by
  induction d with
  | zero =>
    intro i hi
    obtain rfl : i = r := by omega
    refine Ev.no (fun k => ?_)
    simp only [morton_To.l0]; rw [if_neg (by omega)]
  | succ d ih =>
    intro i hi
    refine Ev.step (f := fun k => morton_To.l1 k t (toL n c t l (i * c + 0)) i r i c ((0 : Nat) : Int) r c l) (fun k => ?_) (to_inner r c t l e n hr hc ht1 ht8 hrs hcs hn hl _ i (by omega) (ih (i + 1) (by omega)) c 0 (by omega))
    simp only [morton_To.l0]; rw [if_pos (by omega)]; rfl
theorem big_ok {n : Nat} (h : n ≤ 262144) : n ≤ 35184372088832 := Nat.le_trans h (by decide)
theorem to_ok {r c : Nat} {t : Int} {l : List Int} {e n : Nat} (hm : okMat r c l) (ok : okTile r c t) (hrs : (r : Int) ≤ 2 ^ e * t) (hcs : (c : Int) ≤ 2 ^ e * t) (he : e ≤ 6) (hn : (n : Int) = 2 ^ e * 2 ^ e * t * t) (hS : Ev (fun k => morton_Size.f k r c t) (2 ^ e * 2 ^ e * t * t, 0)) :
    Ev (fun k => morton_To.f k r c l t) (toL n c t l (r * c), 0) := by
  obtain ⟨h1, h2, h3, h4, h5, h6⟩ := ok
  have hl : l.length = r * c := by exact_mod_cast hm.2.2.2.2
  have hp := pe (d := 6 - e) (e := e) (by omega)
  have hs := size_wrap hp.1 hp.2 h5 h6
  refine Ev.congr (f := fun k => (morton_Size.f k r c t).bind fun b => (if 0 ≤ b.1 then (if (b.1 : Int).toNat ≤ 35184372088832 then (if b.2 = 0 then (morton_To.l0 k t (List.replicate (b.1 : Int).toNat 0) r 0 r c l) else (some (([] : List Int), b.2))) else (none)) else (none))) (fun k => ?_) (Ev.bind hS ?_)
  · unfold morton_To.f
    rw [check_eq, Option.bind_some, if_pos hm, if_pos rfl]
  · have := to_outer r c t l e n (by omega) (by omega) h5 h6 hrs hcs hn hl r 0 (by omega)
    have hn2 : n ≤ 262144 := by have h9 := hs.2.2; rw [← hn] at h9; exact Int.ofNat_le.mp (show (n : Int) ≤ ((262144 : Nat) : Int) from h9)
    simp only [← hn, if_pos (Int.natCast_nonneg n), if_pos (big_ok hn2), if_true, Int.toNat_natCast]
    rw [Nat.zero_mul] at this
    exact this
theorem to_noMat {m n : Int} {l : List Int} (t : Int) (hm : ¬ okMat m n l) : Ev (fun k => morton_To.f k m n l t) ([], 11) := by
  refine Ev.congr (f := fun _ => some ([], 11)) (fun k => ?_) (Ev.now _)
  unfold morton_To.f
  rw [check_eq, Option.bind_some, if_neg hm, if_neg (by decide)]
theorem to_noTile {m n : Int} {l : List Int} {t : Int} (hm : okMat m n l) (ok : ¬ okTile m n t) : Ev (fun k => morton_To.f k m n l t) ([], 11) := by
  refine Ev.congr (f := fun k => (morton_Size.f k m n t).bind fun b => (if 0 ≤ b.1 then (if (b.1 : Int).toNat ≤ 35184372088832 then (if b.2 = 0 then (morton_To.l0 k t (List.replicate (b.1 : Int).toNat 0) m 0 m n l) else (some (([] : List Int), b.2))) else (none)) else (none))) (fun k => ?_) (Ev.bind (size_no ok).2 ?_)
  · unfold morton_To.f
    rw [check_eq, Option.bind_some, if_pos hm, if_pos rfl]
  · exact Ev.now _
/-- There and back. -/
theorem untile_toL {r c : Nat} {t : Int} {l : List Int} {e n : Nat} (hm : okMat r c l) (ok : okTile r c t) (hrs : (r : Int) ≤ 2 ^ e * t) (hcs : (c : Int) ≤ 2 ^ e * t) (hn : (n : Int) = 2 ^ e * 2 ^ e * t * t) : untile r c t (toL n c t l (r * c)) = l := by
  obtain ⟨h1, h2, h3, h4, h5, h6⟩ := ok
  have hl : l.length = r * c := by exact_mod_cast hm.2.2.2.2
  obtain ⟨i1, _, _⟩ := toL_inv (by omega) (by omega) h5 h6 hrs hcs hn l hl (r * c) (Nat.le_refl _)
  symm
  refine mk_eq hl (fun k hk => ?_)
  have hx := ixN_bd h5 h6 hrs hcs hn hk
  rw [← i1 k hk, ← hx.2]; rfl
theorem count_b (l : List Int) (m n : Int) (hlen : l.length ≤ 4096) (d : Nat) : ∀ (i : Nat) (v : Int), i + d = l.length → v = (cnt (l.drop i) : Int) → Ev (fun k => vernierlaw16_MortonBack.l1 k v i m n l) true := by
  induction d with
  | zero =>
    intro i v hi hv
    refine Ev.no (fun k => ?_)
    simp only [vernierlaw16_MortonBack.l1]; rw [if_neg (by omega), hv, List.drop_of_length_le (by omega)]; rfl
  | succ d ih =>
    intro i v hi hv
    have h1 : i < l.length := by omega
    have hd : l.drop i = l.getD i 0 :: l.drop (i + 1) := by rw [List.getD_eq_getElem?_getD, List.getElem?_eq_getElem h1, List.drop_eq_getElem_cons h1]; rfl
    have hc : cnt (l.drop i) = cnt (l.drop (i + 1)) + if l.getD i 0 ≠ 0 then 1 else 0 := by rw [hd]; unfold cnt; rw [List.countP_cons]; simp
    have hb : cnt (l.drop (i + 1)) ≤ 4096 := Nat.le_trans (List.countP_le_length) (by rw [List.length_drop]; omega)
    by_cases e : l.getD i 0 = 0
    · rw [if_neg (by simpa using e)] at hc
      refine Ev.step (f := fun k => vernierlaw16_MortonBack.l1 k v ((i + 1 : Nat) : Int) m n l) (fun k => ?_) (ih (i + 1) v (by omega) (by omega))
      simp only [vernierlaw16_MortonBack.l1]; rw [if_pos (by omega), if_pos (by omega), rd_nat, if_pos e, wsucc _ (by omega)]
    · rw [if_pos e] at hc
      refine Ev.step (f := fun k => vernierlaw16_MortonBack.l1 k (v - 1) ((i + 1 : Nat) : Int) m n l) (fun k => ?_) (ih (i + 1) (v - 1) (by omega) (by omega))
      simp only [vernierlaw16_MortonBack.l1]; rw [if_pos (by omega), if_pos (by omega), rd_nat, if_neg e, wsucc _ (by omega), w64 (by omega) (by omega)]
theorem count_a (x l : List Int) (m n : Int) (hx : x.length ≤ 262144) (hlen : l.length ≤ 4096) (hc : cnt x = cnt l) (d : Nat) : ∀ (i : Nat) (v : Int), i + d = x.length → v + (cnt (x.drop i) : Int) = (cnt x : Int) → 0 ≤ v → Ev (fun k => vernierlaw16_MortonBack.l0 k x v i m n l) true := by
  have hbx : cnt x ≤ 262144 := Nat.le_trans (List.countP_le_length) hx
  induction d with
  | zero =>
    intro i v hi hv _
    rw [List.drop_of_length_le (by omega)] at hv
    refine Ev.step (f := fun k => vernierlaw16_MortonBack.l1 k v ((0 : Nat) : Int) m n l) (fun k => ?_) (count_b l m n hlen l.length 0 v (by omega) (by have : cnt ([] : List Int) = 0 := rfl; rw [this] at hv; rw [List.drop_zero]; omega))
    simp only [vernierlaw16_MortonBack.l0]; rw [if_neg (by omega)]; rfl
  | succ d ih =>
    intro i v hi hv hv0
    have h1 : i < x.length := by omega
    have hd : x.drop i = x.getD i 0 :: x.drop (i + 1) := by rw [List.getD_eq_getElem?_getD, List.getElem?_eq_getElem h1, List.drop_eq_getElem_cons h1]; rfl
    have hc : cnt (x.drop i) = cnt (x.drop (i + 1)) + if x.getD i 0 ≠ 0 then 1 else 0 := by rw [hd]; unfold cnt; rw [List.countP_cons]; simp
    by_cases e : x.getD i 0 = 0
    · rw [if_neg (by simpa using e)] at hc
      refine Ev.step (f := fun k => vernierlaw16_MortonBack.l0 k x v ((i + 1 : Nat) : Int) m n l) (fun k => ?_) (ih (i + 1) v (by omega) (by omega) hv0)
      simp only [vernierlaw16_MortonBack.l0]; rw [if_pos (by omega), if_pos (by omega), rd_nat, if_pos e, wsucc _ (by omega)]
    · rw [if_pos e] at hc
      refine Ev.step (f := fun k => vernierlaw16_MortonBack.l0 k x (v + 1) ((i + 1 : Nat) : Int) m n l) (fun k => ?_) (ih (i + 1) (v + 1) (by omega) (by omega) (by omega))
      simp only [vernierlaw16_MortonBack.l0]; rw [if_pos (by omega), if_pos (by omega), rd_nat, if_neg e, wsucc _ (by omega), w64 (by omega) (by omega)]
def okAll (m n : Int) (l : List Int) (t : Int) : Prop := okMat m n l ∧ 1 ≤ t ∧ t ≤ 8
theorem back_head (m n : Int) (l : List Int) (t : Int) (k : Nat) (x : List Int) (e : Int) :
    (if m < 1 then (vernierlaw16_MortonBack.j0 k t x e true m n l) else (if m > 64 then (vernierlaw16_MortonBack.j0 k t x e true m n l) else (if n < 1 then (vernierlaw16_MortonBack.j0 k t x e true m n l) else (if n > 64 then (vernierlaw16_MortonBack.j0 k t x e true m n l) else (if (l.length : Int) = (wrap64 (m * n)) then (if t < 1 then (vernierlaw16_MortonBack.j0 k t x e true m n l) else (vernierlaw16_MortonBack.j0 k t x e (decide (t > 8)) m n l)) else (vernierlaw16_MortonBack.j0 k t x e true m n l)))))) =
      (if okMat m n l ∧ 1 ≤ t then vernierlaw16_MortonBack.j0 k t x e (decide (t > 8)) m n l else vernierlaw16_MortonBack.j0 k t x e true m n l) := by
  by_cases a : m < 1
  · rw [if_pos a, if_neg (fun h : okMat m n l ∧ 1 ≤ t => by have := h.1.1; omega)]
  rw [if_neg a]
  by_cases b : m > 64
  · rw [if_pos b, if_neg (fun h : okMat m n l ∧ 1 ≤ t => by have := h.1.2.1; omega)]
  rw [if_neg b]
  by_cases c : n < 1
  · rw [if_pos c, if_neg (fun h : okMat m n l ∧ 1 ≤ t => by have := h.1.2.2.1; omega)]
  rw [if_neg c]
  by_cases d : n > 64
  · rw [if_pos d, if_neg (fun h : okMat m n l ∧ 1 ≤ t => by have := h.1.2.2.2.1; omega)]
  rw [if_neg d, wprod (by omega) (by omega) (by omega) (by omega)]
  by_cases f : (l.length : Int) = m * n
  · rw [if_pos f]
    by_cases g : t < 1
    · rw [if_pos g, if_neg (fun h : okMat m n l ∧ 1 ≤ t => by have := h.2; omega)]
    · rw [if_neg g, if_pos ⟨⟨by omega, by omega, by omega, by omega, f⟩, by omega⟩]
  · rw [if_neg f, if_neg (fun h : okMat m n l ∧ 1 ≤ t => f h.1.2.2.2.2)]
theorem back_no (m n : Int) (l : List Int) (t : Int) : Ev (fun k => vernierlaw16_MortonBack.j0 k t [] 11 true m n l) true := by
  refine Ev.no (fun k => ?_)
  simp only [vernierlaw16_MortonBack.j0, if_true]; rfl
theorem MortonBack_pure (m n : Int) (l : List Int) (t : Int) : Ev (fun k => vernierlaw16_MortonBack.f k m n l t) true := by
  refine Ev.bind alive16 ?_
  simp only [if_true]
  by_cases hm : okMat m n l
  · by_cases ht : 1 ≤ t ∧ t ≤ 8
    · obtain ⟨r, rfl⟩ := Int.eq_ofNat_of_zero_le (show 0 ≤ m by have := hm.1; omega)
      obtain ⟨c, rfl⟩ := Int.eq_ofNat_of_zero_le (show 0 ≤ n by have := hm.2.2.1; omega)
      have ok : okTile r c t := ⟨hm.1, hm.2.1, hm.2.2.1, hm.2.2.2.1, ht.1, ht.2⟩
      obtain ⟨e, he, hrs, hcs, _, hS, _⟩ := size_ok ok
      have hp := pe (d := 6 - e) (e := e) (by omega)
      have hs := size_wrap hp.1 hp.2 ht.1 ht.2
      obtain ⟨z, hz⟩ := Int.eq_ofNat_of_zero_le hs.2.1
      have hl : l.length = r * c := by exact_mod_cast hm.2.2.2.2
      have hb : r * c ≤ 64 * 64 := Nat.mul_le_mul (by have := hm.2.1; omega) (by have := hm.2.2.2.1; omega)
      refine Ev.bind (to_ok hm ok hrs hcs he (n := z) hz.symm hS) ?_
      simp only [back_head]
      simp only [if_pos (show okMat (r : Int) c l ∧ 1 ≤ t from ⟨hm, ht.1⟩), decide_eq_false (show ¬ t > 8 by omega)]
      have hlen := toL_len z c t l (r * c)
      obtain ⟨_, _, i3⟩ := toL_inv (by have := hm.2.1; omega) (by have := hm.2.2.2.1; omega) ht.1 ht.2 hrs hcs hz.symm l hl (r * c) (Nat.le_refl _)
      rw [← hl, List.take_length] at i3
      have hback := untile_toL hm ok hrs hcs hz.symm
      have hf := from_ok ok hrs hcs hS (w := toL z c t l (r * c)) (by rw [hlen]; exact hz.symm)
      rw [hback] at hf
      rw [← hl] at hf hlen ⊢
      refine Ev.step (f := fun k => (morton_From.f k (toL z c t l l.length) r c t).bind fun b => if b.2.2.2 = 0 then (if b.1 = (r : Int) then (if b.2.1 = (c : Int) then ((vernierref01_Same.f k l b.2.2.1).bind fun s => vernierlaw16_MortonBack.j1 k (toL z c t l l.length) (!s) r c l) else vernierlaw16_MortonBack.j1 k (toL z c t l l.length) true r c l) else vernierlaw16_MortonBack.j1 k (toL z c t l l.length) true r c l) else vernierlaw16_MortonBack.j1 k (toL z c t l l.length) true r c l) (fun k => ?_) (Ev.bind hf ?_)
      · simp only [vernierlaw16_MortonBack.j0, if_true, if_neg (show ¬ (false = true) by decide)]
      · simp only [if_true]
        refine Ev.bind (same_ev l l (by omega)) ?_
        simp only [decide_true, Bool.not_true]
        refine Ev.step (f := fun k => vernierlaw16_MortonBack.l0 k (toL z c t l l.length) 0 ((0 : Nat) : Int) r c l) (fun k => ?_) (count_a _ l r c (by omega) (by omega) i3 (toL z c t l l.length).length 0 0 (by omega) (by simp) (by omega))
        simp only [vernierlaw16_MortonBack.j1, if_neg (show ¬ (false = true) by decide)]; rfl
    · refine Ev.bind (to_noTile (t := t) hm (fun h => ht ⟨h.2.2.2.2.1, h.2.2.2.2.2⟩)) ?_
      simp only [back_head]
      by_cases h1 : 1 ≤ t
      · simp only [if_pos (show okMat m n l ∧ 1 ≤ t from ⟨hm, h1⟩), decide_eq_true (show t > 8 by omega)]
        exact back_no m n l t
      · simp only [if_neg (fun h : okMat m n l ∧ 1 ≤ t => h1 h.2)]
        exact back_no m n l t
  · refine Ev.bind (to_noMat t hm) ?_
    simp only [back_head]
    simp only [if_neg (fun h : okMat m n l ∧ 1 ≤ t => hm h.1)]
    exact back_no m n l t
theorem MortonBack_walk (W : World) (m n : Int) (A : Option Addr) (c : Nat) (l : List Int) (_wm : (Lit.int .i64 m).wf = true) (_wn : (Lit.int .i64 n).wf = true) (hr : Kd.C (Kd.int .u64) W A l.length l) (hc : l.length ≤ c) (_hm : l.length ≤ maxLen) (_hw : ∀ x ∈ l, (Lit.int .u64 x).wf = true) (t : Int) (_wt : (Lit.int .i64 t).wf = true) :
    Calls Try.prog 11 #[.agg #[.int .i64 m, .int .i64 n, .slice A l.length c], .int .i64 t] W fun e w' => e = .returned (.bool true) ∧ Below W.heap.size W w' := by
  obtain ⟨k, h⟩ := (MortonBack_pure m n l t).rounds
  exact (vernierlaw16_MortonBack.calls k m n A c l t true W hr hc h).mono fun e w' h => h
end Go.Proofs.Ytdkmmelbadcpjaa.Pure
