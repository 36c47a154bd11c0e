/- PermRows: rows in order are those that are told; undone they are as they were. For every matrix and every list. -/
import Derived.Test.YtceghmceoliplaaPPermRowsx4
namespace Go.Proofs.Ytceghmceoliplaa.Pure
open Go.RowKit Go.Proofs.Ytceghmceoliplaa.PPermRows Go.Proofs.YtceghmceoliplaaW.PrintWords Go.Proofs.YtceghmceoliplaaW.PrintLast Go.Proofs.YtceghmceoliplaaW.PrintMore
-- Whole numbers that fit; places in a matrix; lists made of a function.
theorem w64 {x : Int} (h0 : -9223372036854775808 ≤ x) (h1 : x < 9223372036854775808) : wrap64 x = x := by unfold wrap64; omega
theorem wN (n : Nat) (h : n < 9223372036854775808) : wrap64 (n : Int) = (n : Int) := w64 (by omega) (by omega)
theorem wmul (a b : Nat) (h : a * b < 9223372036854775808) : wrap64 ((a : Int) * (b : Int)) = ((a * b : Nat) : Int) := by rw [← Int.natCast_mul]; exact wN _ h
theorem wadd (a b : Nat) (h : a + b < 9223372036854775808) : wrap64 ((a : Int) + (b : Int)) = ((a + b : Nat) : Int) := by rw [← Int.natCast_add]; exact wN _ h
theorem wsucc (a : Nat) (h : a + 1 < 9223372036854775808) : wrap64 ((a : Int) + 1) = ((a + 1 : Nat) : Int) := wadd a 1 h
theorem place_lt {i j r c : Nat} (hi : i < r) (hj : j < c) : i * c + j < r * c := by
  have : (i + 1) * c ≤ r * c := Nat.mul_le_mul_right c hi
  rw [Nat.add_mul, Nat.one_mul] at this; omega
theorem place_div {i j c : Nat} (hj : j < c) : (i * c + j) / c = i := by
  rw [Nat.mul_comm, Nat.mul_add_div (by omega), Nat.div_eq_of_lt hj, Nat.add_zero]
theorem place_mod {i j c : Nat} (hj : j < c) : (i * c + j) % c = j := by
  rw [Nat.mul_comm, Nat.mul_add_mod, Nat.mod_eq_of_lt hj]
theorem place_of (k c : Nat) : k / c * c + k % c = k := by rw [Nat.mul_comm]; exact Nat.div_add_mod k c
theorem div_lt_of {k r c : Nat} (h : k < r * c) : k / c < r := Nat.div_lt_of_lt_mul (by rw [Nat.mul_comm]; exact h)
theorem mod_lt_of {k r c : Nat} (h : k < r * c) : k % c < c := Nat.mod_lt _ (by rcases Nat.eq_zero_or_pos c with rfl | h' <;> omega)
def mk (n : Nat) (f : Nat → Int) : List Int := (List.range n).map f
theorem mk_len (n : Nat) (f : Nat → Int) : (mk n f).length = n := by simp [mk]
theorem mk_get (n : Nat) (f : Nat → Int) (k : Nat) (h : k < n) : (mk n f).getD k 0 = f k := by
  simp [mk, List.getD_eq_getElem?_getD, h]
theorem rd_mk (n : Nat) (f : Nat → Int) (k : Nat) (h : k < n) : rd (mk n f) (k : Int) = f k := mk_get n f k h
theorem rd_nat (l : List Int) (k : Nat) : rd l (k : Int) = l.getD k 0 := rfl
theorem mk_congr {n : Nat} {f g : Nat → Int} (h : ∀ k, k < n → f k = g k) : mk n f = mk n g := List.map_congr_left (fun k hk => h k (List.mem_range.1 hk))
theorem mk_set (n : Nat) (f : Nat → Int) (p : Nat) (v : Int) : (mk n f).set p v = mk n (fun k => if k = p then v else f k) := by
  apply List.ext_getElem
  · simp [mk]
  · intro i h1 h2
    simp only [mk, List.length_set, List.length_map, List.length_range] at h1
    rw [List.getElem_set]
    simp only [mk, List.getElem_map, List.getElem_range]
    by_cases e : p = i
    · subst e; simp
    · rw [if_neg e, if_neg (fun h => e h.symm)]
theorem mk_const (n : Nat) (v : Int) : List.replicate n v = mk n (fun _ => v) := by
  apply List.ext_getElem
  · simp [mk]
  · intro i h1 h2; simp [mk]
theorem mk_self (l : List Int) : mk l.length (fun k => l.getD k 0) = l := by
  apply List.ext_getElem
  · simp [mk]
  · intro i h1 h2
    simp only [mk, List.getElem_map, List.getElem_range]
    rw [List.getD_eq_getElem?_getD, List.getElem?_eq_getElem h2]; rfl
theorem mk_eq {n : Nat} {f : Nat → Int} {l : List Int} (hl : l.length = n) (h : ∀ k, k < n → l.getD k 0 = f k) : l = mk n f := by
  subst hl
  exact (mk_self l).symm.trans (mk_congr h)
theorem Ev.no {α : Type} {g : Nat → Option α} {r : α} (h : ∀ k, g (k + 1) = some r) : Ev g r := Ev.step (f := fun _ => some r) h (Ev.now r)
theorem same_l (a b : List Int) (hl : a.length = b.length) (hm : a.length ≤ 9223372036854775807) (d : Nat) : ∀ i : Nat, i + d = a.length → Ev (fun k => vernierref01_Same.l0 k a b i) (decide (a.drop i = b.drop i)) := by
  induction d with
  | zero =>
    intro i hi
    refine Ev.no (fun k => ?_)
    simp only [vernierref01_Same.l0]; rw [if_neg (by omega), List.drop_of_length_le (by omega), List.drop_of_length_le (by omega)]; rfl
  | succ d ih =>
    intro i hi
    have h1 : i < a.length := by omega
    have h2 : i < b.length := by omega
    have e1 : a.drop i = a.getD i 0 :: a.drop (i + 1) := by rw [List.getD_eq_getElem?_getD, List.getElem?_eq_getElem h1, List.drop_eq_getElem_cons h1]; rfl
    have e2 : b.drop i = b.getD i 0 :: b.drop (i + 1) := by rw [List.getD_eq_getElem?_getD, List.getElem?_eq_getElem h2, List.drop_eq_getElem_cons h2]; rfl
    have hs : ∀ k, vernierref01_Same.l0 (k + 1) a b i = if a.getD i 0 = b.getD i 0 then vernierref01_Same.l0 k a b ((i + 1 : Nat) : Int) else some false := fun k => by
      simp only [vernierref01_Same.l0]; rw [if_pos (by omega), if_pos (by omega), if_pos (by omega), rd_nat, rd_nat, wsucc _ (by omega)]
    by_cases e : a.getD i 0 = b.getD i 0
    · refine Ev.step (f := fun k => vernierref01_Same.l0 k a b ((i + 1 : Nat) : Int)) (fun k => by rw [hs, if_pos e]) ?_
      have := ih (i + 1) (by omega)
      rw [e1, e2, e]
      simpa using this
    · refine Ev.no (fun k => ?_)
      rw [hs, if_neg e, e1, e2, decide_eq_false (fun h => e (List.cons.inj h).1)]
theorem same_ev (a b : List Int) (hm : a.length ≤ 9223372036854775807) : Ev (fun k => vernierref01_Same.f k a b) (decide (a = b)) := by
  by_cases h : a.length = b.length
  · refine Ev.congr (f := fun k => vernierref01_Same.l0 k a b ((0 : Nat) : Int)) (fun k => ?_) ?_
    · unfold vernierref01_Same.f; rw [if_pos (by omega)]; rfl
    · simpa using same_l a b h hm a.length 0 (by omega)
  · refine Ev.congr (f := fun _ => some false) (fun k => ?_) ?_
    · unfold vernierref01_Same.f; rw [if_neg (by omega)]
    · rw [decide_eq_false (fun e => h (by rw [e]))]; exact Ev.now _
-- What the printed functions of the package shape come to.
def okMat (m n : Int) (l : List Int) : Prop := 1 ≤ m ∧ m ≤ 64 ∧ 1 ≤ n ∧ n ≤ 64 ∧ (l.length : Int) = m * n
instance (m n : Int) (l : List Int) : Decidable (okMat m n l) := by unfold okMat; infer_instance
theorem prod_le {m n : Int} (h0 : 1 ≤ m) (h1 : m ≤ 64) (h2 : 1 ≤ n) (h3 : n ≤ 64) : 1 ≤ m * n ∧ m * n ≤ 4096 := by
  constructor
  · have := Int.mul_le_mul h0 h2 (by omega) (by omega); omega
  · have := Int.mul_le_mul h1 h3 (by omega) (by omega); omega
theorem wprod {m n : Int} (h0 : 1 ≤ m) (h1 : m ≤ 64) (h2 : 1 ≤ n) (h3 : n ≤ 64) : wrap64 (m * n) = m * n := by
  have := prod_le h0 h1 h2 h3; exact w64 (by omega) (by omega)
theorem side_eq (n : Int) : shape_side.f n = some (decide (1 ≤ n ∧ n ≤ 64)) := by
  unfold shape_side.f
  by_cases h : n ≥ 1
  · rw [if_pos h]; congr 1; rw [decide_eq_decide]; omega
  · rw [if_neg h]; congr 1; rw [eq_comm, decide_eq_false_iff_not]; omega
theorem check_eq (m n : Int) (l : List Int) : shape_Check.f m n l = some (if okMat m n l then 0 else 11) := by
  unfold shape_Check.f
  rw [side_eq, Option.bind_some]
  by_cases h1 : 1 ≤ m ∧ m ≤ 64
  · rw [decide_eq_true h1, if_pos rfl, side_eq, Option.bind_some]
    by_cases h2 : 1 ≤ n ∧ n ≤ 64
    · rw [decide_eq_true h2, if_pos rfl, wprod h1.1 h1.2 h2.1 h2.2]
      by_cases h3 : (l.length : Int) = m * n
      · rw [if_pos h3, if_pos (show okMat m n l from ⟨h1.1, h1.2, h2.1, h2.2, h3⟩)]
      · rw [if_neg h3, if_neg (fun h : okMat m n l => h3 h.2.2.2.2)]
    · rw [decide_eq_false h2, if_neg (by decide), if_neg (fun h : okMat m n l => h2 ⟨h.2.2.1, h.2.2.2.1⟩)]
  · rw [decide_eq_false h1, if_neg (by decide), if_neg (fun h : okMat m n l => h1 ⟨h.1, h.2.1⟩)]
theorem equal_l (a b : List Int) (hl : a.length = b.length) (hm : a.length ≤ 9223372036854775807) (d : Nat) : ∀ i : Nat, i + d = a.length → Ev (fun k => slices_Equal_uint64_uint64.l0 k a b (a.length : Int) i) (decide (a.drop i = b.drop i)) := by
  induction d with
  | zero =>
    intro i hi
    refine Ev.no (fun k => ?_)
    simp only [slices_Equal_uint64_uint64.l0]; rw [if_neg (by omega), List.drop_of_length_le (by omega), List.drop_of_length_le (by omega)]; rfl
  | succ d ih =>
    intro i hi
    have h1 : i < a.length := by omega
    have h2 : i < b.length := by omega
    have e1 : a.drop i = a.getD i 0 :: a.drop (i + 1) := by rw [List.getD_eq_getElem?_getD, List.getElem?_eq_getElem h1, List.drop_eq_getElem_cons h1]; rfl
    have e2 : b.drop i = b.getD i 0 :: b.drop (i + 1) := by rw [List.getD_eq_getElem?_getD, List.getElem?_eq_getElem h2, List.drop_eq_getElem_cons h2]; rfl
    have hs : ∀ k, slices_Equal_uint64_uint64.l0 (k + 1) a b (a.length : Int) i = if a.getD i 0 = b.getD i 0 then slices_Equal_uint64_uint64.l0 k a b (a.length : Int) ((i + 1 : Nat) : Int) else some false := fun k => by
      simp only [slices_Equal_uint64_uint64.l0]; rw [if_pos (by omega), if_pos (by omega), if_pos (by omega), if_pos (by omega), rd_nat, rd_nat, wsucc _ (by omega)]
    by_cases e : a.getD i 0 = b.getD i 0
    · refine Ev.step (f := fun k => slices_Equal_uint64_uint64.l0 k a b (a.length : Int) ((i + 1 : Nat) : Int)) (fun k => by rw [hs, if_pos e]) ?_
      have := ih (i + 1) (by omega)
      rw [e1, e2, e]
      simpa using this
    · refine Ev.no (fun k => ?_)
      rw [hs, if_neg e, e1, e2, decide_eq_false (fun h => e (List.cons.inj h).1)]
theorem equal_ev (a b : List Int) (hm : a.length ≤ 9223372036854775807) : Ev (fun k => slices_Equal_uint64_uint64.f k a b) (decide (a = b)) := by
  by_cases h : a.length = b.length
  · refine Ev.congr (f := fun k => slices_Equal_uint64_uint64.l0 k a b (a.length : Int) ((0 : Nat) : Int)) (fun k => ?_) ?_
    · unfold slices_Equal_uint64_uint64.f; rw [if_pos (by omega)]; rfl
    · simpa using equal_l a b h hm a.length 0 (by omega)
  · refine Ev.congr (f := fun _ => some false) (fun k => ?_) ?_
    · unfold slices_Equal_uint64_uint64.f; rw [if_neg (by omega)]
    · rw [decide_eq_false (fun e => h (by rw [e]))]; exact Ev.now _
theorem shape_same_ev (m n : Int) (a : List Int) (m' n' : Int) (b : List Int) (hm : a.length ≤ 9223372036854775807) : Ev (fun k => shape_Same.f k m n a m' n' b) (decide (m = m' ∧ n = n' ∧ a = b)) := by
  unfold shape_Same.f
  by_cases h1 : m = m'
  · by_cases h2 : n = n'
    · simp only [if_pos h1, if_pos h2]
      rw [show decide (m = m' ∧ n = n' ∧ a = b) = decide (a = b) by rw [decide_eq_decide]; exact ⟨fun h => h.2.2, fun h => ⟨h1, h2, h⟩⟩]
      exact Ev.bind (equal_ev a b hm) (Ev.now _)
    · simp only [if_pos h1, if_neg h2]; rw [decide_eq_false (fun h => h2 h.2.1)]; exact Ev.now _
  · simp only [if_neg h1]; rw [decide_eq_false (fun h => h1 h.1)]; exact Ev.now _
-- Permutations as lists: what is one, and its parity.
theorem pig : ∀ (n : Nat) (l : List Int), l.Nodup → (∀ x ∈ l, 0 ≤ x ∧ x < (n : Int)) → l.length ≤ n ∧ (l.length = n → ∀ v : Int, 0 ≤ v → v < (n : Int) → v ∈ l)
  | 0, l, _, h => by
    cases l with
    | nil => exact ⟨Nat.le_refl _, fun _ v h0 h1 => by omega⟩
    | cons x l => have := h x List.mem_cons_self; omega
  | n + 1, l, hn, h => by
    by_cases hm : (n : Int) ∈ l
    · have hl : (l.erase (n : Int)).length = l.length - 1 := List.length_erase_of_mem hm
      have hp : 0 < l.length := List.length_pos_of_mem hm
      have I := pig n (l.erase (n : Int)) (hn.erase _) (fun x hx => by
        have h1 := (hn.mem_erase_iff).1 hx
        have h2 := h x h1.2
        have h3 := h1.1
        omega)
      refine ⟨by omega, fun he v h0 h1 => ?_⟩
      by_cases g : v = (n : Int)
      · rw [g]; exact hm
      · exact List.mem_of_mem_erase (I.2 (by omega) v h0 (by omega))
    · have I := pig n l hn (fun x hx => by
        have h2 := h x hx
        have h3 : x ≠ (n : Int) := fun e => hm (e ▸ hx)
        omega)
      exact ⟨by omega, fun he => by omega⟩
def isP (n : Nat) (l : List Int) : Prop := l.length = n ∧ l.Nodup ∧ ∀ x ∈ l, 0 ≤ x ∧ x < (n : Int)
theorem isP_get {n : Nat} {l : List Int} (h : isP n l) {i : Nat} (hi : i < n) : 0 ≤ l.getD i 0 ∧ l.getD i 0 < (n : Int) := by
  have hi' : i < l.length := by rw [h.1]; exact hi
  have : l.getD i 0 ∈ l := by rw [List.getD_eq_getElem?_getD, List.getElem?_eq_getElem hi']; exact List.getElem_mem hi'
  exact h.2.2 _ this
theorem isP_inj {n : Nat} {l : List Int} (h : isP n l) {i j : Nat} (hi : i < n) (hj : j < n) (e : l.getD i 0 = l.getD j 0) : i = j := by
  have hi' : i < l.length := by rw [h.1]; exact hi
  have hj' : j < l.length := by rw [h.1]; exact hj
  rw [List.getD_eq_getElem?_getD, List.getD_eq_getElem?_getD, List.getElem?_eq_getElem hi', List.getElem?_eq_getElem hj'] at e
  have P := List.pairwise_iff_getElem.1 h.2.1
  apply Classical.byContradiction
  intro hne
  rcases Nat.lt_or_gt_of_ne hne with g | g
  · exact P i j hi' hj' g e
  · exact P j i hj' hi' g e.symm
theorem isP_sur {n : Nat} {l : List Int} (h : isP n l) {v : Nat} (hv : v < n) : ∃ i, i < n ∧ l.getD i 0 = (v : Int) := by
  have := (pig n l h.2.1 h.2.2).2 h.1 v (by omega) (by omega)
  obtain ⟨i, hi, e⟩ := List.mem_iff_getElem.1 this
  refine ⟨i, by rw [← h.1]; exact hi, ?_⟩
  rw [List.getD_eq_getElem?_getD, List.getElem?_eq_getElem hi]; exact e
theorem isP_of {n : Nat} {l : List Int} (hl : l.length = n) (hb : ∀ i, i < n → 0 ≤ l.getD i 0 ∧ l.getD i 0 < (n : Int)) (hi : ∀ i j, i < n → j < n → l.getD i 0 = l.getD j 0 → i = j) : isP n l := by
  refine ⟨hl, ?_, fun x hx => ?_⟩
  · refine List.pairwise_iff_getElem.2 (fun i j h1 h2 hij e => ?_)
    have := hi i j (by omega) (by omega) (by rw [List.getD_eq_getElem?_getD, List.getD_eq_getElem?_getD, List.getElem?_eq_getElem h1, List.getElem?_eq_getElem h2, e])
    omega
  · obtain ⟨i, h1, e⟩ := List.mem_iff_getElem.1 hx
    have := hb i (by omega)
    rw [List.getD_eq_getElem?_getD, List.getElem?_eq_getElem h1] at this
    rw [← e]; exact this
theorem ext_getD {n : Nat} {a b : List Int} (ha : a.length = n) (hb : b.length = n) (h : ∀ i, i < n → a.getD i 0 = b.getD i 0) : a = b := by
  apply List.ext_getElem (by omega)
  intro i h1 h2
  have := h i (by omega)
  rw [List.getD_eq_getElem?_getD, List.getD_eq_getElem?_getD, List.getElem?_eq_getElem h1, List.getElem?_eq_getElem h2] at this
  exact this
theorem getD_set (l : List Int) (i : Nat) (v : Int) (j : Nat) (hi : i < l.length) : (l.set i v).getD j 0 = if j = i then v else l.getD j 0 := by
  rw [List.getD_eq_getElem?_getD, List.getElem?_set, List.getD_eq_getElem?_getD]
  by_cases g : i = j
  · subst g; rw [if_pos rfl, if_pos hi, if_pos rfl]; rfl
  · rw [if_neg g, if_neg (fun e => g e.symm)]
/-- Two places changed. -/
def sw (l : List Int) (i j : Nat) : List Int := (l.set i (l.getD j 0)).set j (l.getD i 0)
theorem sw_len (l : List Int) (i j : Nat) : (sw l i j).length = l.length := by unfold sw; rw [List.length_set, List.length_set]
theorem sw_get (l : List Int) {i j : Nat} (hi : i < l.length) (hj : j < l.length) (t : Nat) : (sw l i j).getD t 0 = if t = j then l.getD i 0 else if t = i then l.getD j 0 else l.getD t 0 := by
  unfold sw
  rw [getD_set _ _ _ _ (by rw [List.length_set]; exact hj), getD_set _ _ _ _ hi]
theorem sw_at (l : List Int) {i j : Nat} (hi : i < l.length) (hj : j < l.length) (t : Nat) : (sw l i j).getD t 0 = l.getD (if t = j then i else if t = i then j else t) 0 := by
  rw [sw_get l hi hj]
  split
  · rfl
  · split <;> rfl
theorem sw_P {n : Nat} {l : List Int} (h : isP n l) {i j : Nat} (hi : i < n) (hj : j < n) : isP n (sw l i j) := by
  have hl := h.1
  refine isP_of (by rw [sw_len, hl]) (fun t ht => ?_) (fun s t hs ht e => ?_)
  · rw [sw_at l (by omega) (by omega)]
    exact isP_get h (by split; exact hi; split; exact hj; exact ht)
  · rw [sw_at l (by omega) (by omega), sw_at l (by omega) (by omega)] at e
    have := isP_inj h (by split; exact hi; split; exact hj; exact hs) (by split; exact hi; split; exact hj; exact ht) e
    split at this <;> split at this <;> (repeat' split at this) <;> omega
theorem sw_same (l : List Int) {i : Nat} (hi : i < l.length) : sw l i i = l := by
  refine ext_getD (n := l.length) (sw_len _ _ _) rfl (fun t ht => ?_)
  rw [sw_get l hi hi]
  split
  · rename_i h; rw [h]
  · rfl
theorem sw_comm (l : List Int) {i j : Nat} (hi : i < l.length) (hj : j < l.length) : sw l i j = sw l j i := by
  refine ext_getD (n := l.length) (sw_len _ _ _) (sw_len _ _ _) (fun t ht => ?_)
  rw [sw_get l hi hj, sw_get l hj hi]
  by_cases a : t = j <;> by_cases b : t = i <;> simp [a, b] <;> (try omega)
  · intro h; rw [← a, b] at *
-- parity
def sg2 (x y : Int) : Bool := decide (y < x)
def cn (x : Int) : List Int → Bool
  | [] => false
  | y :: l => sg2 x y ^^ cn x l
def nc (y : Int) : List Int → Bool
  | [] => false
  | b :: l => sg2 b y ^^ nc y l
def cross : List Int → List Int → Bool
  | [], _ => false
  | a :: A, B => cn a B ^^ cross A B
def pty : List Int → Bool
  | [] => false
  | x :: l => cn x l ^^ pty l
def par : List Int → Bool
  | [] => false
  | _ :: l => !par l
theorem cn_append (x : Int) : ∀ A B : List Int, cn x (A ++ B) = (cn x A ^^ cn x B)
  | [], B => by simp [cn]
  | a :: A, B => by simp only [List.cons_append, cn]; rw [cn_append x A B, Bool.xor_assoc]
theorem cross_cons (y : Int) (C : List Int) : ∀ A : List Int, cross A (y :: C) = (nc y A ^^ cross A C)
  | [] => rfl
  | a :: A => by
    simp only [cross, cn, nc]; rw [cross_cons y C A]
    generalize sg2 a y = p; generalize cn a C = q; generalize nc y A = r; generalize cross A C = s
    cases p <;> cases q <;> cases r <;> cases s <;> rfl
theorem cross_append (B C : List Int) : ∀ A : List Int, cross A (B ++ C) = (cross A B ^^ cross A C)
  | [] => rfl
  | a :: A => by
    simp only [cross]; rw [cross_append B C A, cn_append]
    generalize cn a B = p; generalize cn a C = q; generalize cross A B = r; generalize cross A C = s
    cases p <;> cases q <;> cases r <;> cases s <;> rfl
theorem pty_append (B : List Int) : ∀ A : List Int, pty (A ++ B) = ((pty A ^^ cross A B) ^^ pty B)
  | [] => by simp [pty, cross]
  | a :: A => by
    simp only [List.cons_append, pty, cross]; rw [pty_append B A, cn_append]
    generalize cn a A = p; generalize cn a B = q; generalize pty A = r; generalize cross A B = s; generalize pty B = t
    cases p <;> cases q <;> cases r <;> cases s <;> cases t <;> rfl
theorem cn_nc (x : Int) : ∀ B : List Int, x ∉ B → nc x B = (cn x B ^^ par B)
  | [], _ => rfl
  | b :: B, h => by
    simp only [nc, cn, par]; rw [cn_nc x B (fun hm => h (List.mem_cons_of_mem _ hm))]
    have : sg2 b x = !sg2 x b := by
      have hne : x ≠ b := fun e => h (e ▸ List.mem_cons_self)
      unfold sg2
      by_cases g : x < b
      · rw [decide_eq_true g, decide_eq_false (by omega)]; rfl
      · rw [decide_eq_false g, decide_eq_true (by omega)]; rfl
    rw [this]
    generalize sg2 x b = p; generalize cn x B = q; generalize par B = r
    cases p <;> cases q <;> cases r <;> rfl
theorem pty_flip (A B C : List Int) (x y : Int) (hxy : x ≠ y) (hx : x ∉ B) (hy : y ∉ B) : pty (A ++ y :: (B ++ x :: C)) = !pty (A ++ x :: (B ++ y :: C)) := by
  have e1 : ∀ u v : Int, pty (A ++ u :: (B ++ v :: C)) = ((pty A ^^ (nc u A ^^ (cross A B ^^ (nc v A ^^ cross A C)))) ^^ ((cn u B ^^ (sg2 u v ^^ cn u C)) ^^ ((pty B ^^ (nc v B ^^ cross B C)) ^^ (cn v C ^^ pty C)))) := fun u v => by
    rw [pty_append, cross_cons, cross_append, cross_cons]
    simp only [pty]
    rw [pty_append, cross_cons, cn_append]
    simp only [cn, pty]
  rw [e1, e1, cn_nc x B hx, cn_nc y B hy]
  have : sg2 y x = !sg2 x y := by
    unfold sg2
    by_cases g : y < x
    · rw [decide_eq_true g, decide_eq_false (by omega)]; rfl
    · rw [decide_eq_false g, decide_eq_true (by omega)]; rfl
  rw [this]
  have key : ∀ a b c d e f g h i j k l m n : Bool, ((a ^^ (b ^^ (c ^^ (d ^^ e)))) ^^ ((f ^^ (!g ^^ h)) ^^ ((i ^^ ((j ^^ k) ^^ l)) ^^ (m ^^ n)))) = !((a ^^ (d ^^ (c ^^ (b ^^ e)))) ^^ ((j ^^ (g ^^ m)) ^^ ((i ^^ ((f ^^ k) ^^ l)) ^^ (h ^^ n)))) := by
    decide +kernel
  exact key _ _ _ _ _ _ _ _ _ _ _ _ _ _
theorem split_at (l : List Int) (i : Nat) (h : i < l.length) : ∃ A x C, l = A ++ x :: C ∧ A.length = i := by
  refine ⟨l.take i, l[i], l.drop (i + 1), ?_, by rw [List.length_take]; omega⟩
  rw [← List.drop_eq_getElem_cons h, List.take_append_drop]
theorem sw_split (A B C : List Int) (x y : Int) : sw (A ++ x :: (B ++ y :: C)) A.length (A.length + 1 + B.length) = A ++ y :: (B ++ x :: C) := by
  have e1 : (A ++ x :: (B ++ y :: C)).getD A.length 0 = x := by simp [List.getD_eq_getElem?_getD]
  have e2 : (A ++ x :: (B ++ y :: C)).getD (A.length + 1 + B.length) 0 = y := by
    rw [List.getD_eq_getElem?_getD, List.getElem?_append_right (by omega), show A.length + 1 + B.length - A.length = B.length + 1 by omega, List.getElem?_cons_succ, List.getElem?_append_right (Nat.le_refl _), Nat.sub_self]; rfl
  unfold sw
  rw [e1, e2, List.set_append_right _ _ (Nat.le_refl _), Nat.sub_self, List.set_cons_zero, List.set_append_right _ _ (by omega), show A.length + 1 + B.length - A.length = B.length + 1 by omega, List.set_cons_succ, List.set_append_right _ _ (Nat.le_refl _), Nat.sub_self, List.set_cons_zero]
theorem pty_sw {n : Nat} {l : List Int} (h : isP n l) {i j : Nat} (hi : i < n) (hj : j < n) (hne : i ≠ j) : pty (sw l i j) = !pty l := by
  have main : ∀ i j : Nat, i < j → j < n → pty (sw l i j) = !pty l := by
    intro i j hij hj
    obtain ⟨A, x, D, hl, hA⟩ := split_at l i (by rw [h.1]; omega)
    have hD : j - i - 1 < D.length := by
      have := congrArg List.length hl
      rw [List.length_append, List.length_cons, h.1] at this; omega
    obtain ⟨B, y, C, hD2, hB⟩ := split_at D (j - i - 1) hD
    subst hD2
    have hj2 : j = A.length + 1 + B.length := by omega
    have hnd := h.2.1
    rw [hl] at hnd
    have h1 := (List.nodup_append.1 hnd).2.1
    have h2 := List.nodup_cons.1 h1
    have h3 := List.nodup_append.1 h2.2
    have hxB : x ∉ B := fun hm => h2.1 (List.mem_append_left _ hm)
    have hxy : x ≠ y := fun e => h2.1 (List.mem_append_right _ (e ▸ List.mem_cons_self))
    have hyB : y ∉ B := fun hm => h3.2.2 y hm y List.mem_cons_self rfl
    rw [hj2, ← hA, hl, sw_split]
    exact pty_flip A B C x y hxy hxB hyB
  have hl := h.1
  rcases Nat.lt_or_gt_of_ne hne with g | g
  · exact main i j g hj
  · rw [sw_comm l (by omega) (by omega)]; exact main j i g hi
theorem cn_less (x : Int) : ∀ l : List Int, (∀ y ∈ l, x < y) → cn x l = false
  | [], _ => rfl
  | y :: l, h => by
    have h1 := h y List.mem_cons_self
    unfold cn sg2
    rw [decide_eq_false (by omega), cn_less x l (fun z hz => h z (List.mem_cons_of_mem _ hz))]; rfl
theorem pty_sorted : ∀ l : List Int, l.Pairwise (· < ·) → pty l = false
  | [], _ => rfl
  | x :: l, h => by
    have h1 := List.pairwise_cons.1 h
    unfold pty
    rw [cn_less x l h1.1, pty_sorted l h1.2]; rfl
def idL (n : Nat) : List Int := (List.range n).map (fun (i : Nat) => (i : Int))
theorem idL_len (n : Nat) : (idL n).length = n := by simp [idL]
theorem idL_get {n i : Nat} (h : i < n) : (idL n).getD i 0 = (i : Int) := by simp [idL, List.getD_eq_getElem?_getD, h]
theorem idL_P (n : Nat) : isP n (idL n) := isP_of (idL_len n) (fun i hi => by rw [idL_get hi]; omega) (fun i j hi hj e => by rw [idL_get hi, idL_get hj] at e; omega)
theorem idL_pty (n : Nat) : pty (idL n) = false := by
  refine pty_sorted _ ?_
  unfold idL
  rw [List.pairwise_map]
  exact List.pairwise_lt_range.imp (fun h => by omega)
-- how many places are not fixed
def cnt (f : Nat → Bool) : Nat → Nat
  | 0 => 0
  | n + 1 => cnt f n + (if f n then 1 else 0)
theorem cnt_le (f g : Nat → Bool) : ∀ n, (∀ t, t < n → g t = true → f t = true) → cnt g n ≤ cnt f n
  | 0, _ => Nat.le_refl _
  | n + 1, h => by
    have I := cnt_le f g n (fun t ht => h t (by omega))
    have := h n (by omega)
    unfold cnt
    by_cases a : g n = true
    · rw [if_pos a, if_pos (this a)]; omega
    · rw [if_neg a]; omega
theorem cnt_lt (f g : Nat → Bool) : ∀ n, (∀ t, t < n → g t = true → f t = true) → ∀ s, s < n → f s = true → g s = false → cnt g n < cnt f n
  | 0, _, s, hs, _, _ => by omega
  | n + 1, h, s, hs, hf, hg => by
    have := h n (by omega)
    unfold cnt
    by_cases e : s = n
    · subst e
      have I := cnt_le f g s (fun t ht => h t (by omega))
      rw [hf, hg, if_pos rfl, if_neg (by decide)]; omega
    · have I := cnt_lt f g n (fun t ht => h t (by omega)) s (by omega) hf hg
      by_cases a : g n = true
      · rw [if_pos a, if_pos (this a)]; omega
      · rw [if_neg a]; omega
def nf (n : Nat) (l : List Int) : Nat := cnt (fun t => decide (l.getD t 0 ≠ (t : Int))) n
theorem nf_sw {n : Nat} {l : List Int} (h : isP n l) {i k : Nat} (hi : i < n) (hk : l.getD i 0 = (k : Int)) (hne : k ≠ i) : k < n ∧ nf n (sw l i k) < nf n l := by
  have hb := isP_get h hi
  have hl := h.1
  have hkn : k < n := by omega
  refine ⟨hkn, cnt_lt _ _ n (fun t ht hg => ?_) k hkn ?_ ?_⟩
  · rw [decide_eq_true_iff] at hg ⊢
    rw [sw_get l (by omega) (by omega)] at hg
    by_cases a : t = k
    · rw [if_pos a, hk, a] at hg; exact absurd rfl hg
    · rw [if_neg a] at hg
      by_cases b : t = i
      · rw [b, hk]; omega
      · rw [if_neg b] at hg; exact hg
  · rw [decide_eq_true_iff]
    intro e
    have := isP_inj h hkn hi (by rw [e, hk]); omega
  · rw [decide_eq_false_iff_not, Classical.not_not, sw_get l (by omega) (by omega), if_pos rfl, hk]
theorem nodup_perm : ∀ (m l : List Int), m.Nodup → (∀ x ∈ m, x ∈ l) → m.length = l.length → m.Perm l
  | [], l, _, _, h => by
    have : l = [] := List.eq_nil_of_length_eq_zero h.symm
    subst this; exact List.Perm.refl _
  | x :: m, l, hn, hs, h => by
    have h1 := List.nodup_cons.1 hn
    have hx := hs x List.mem_cons_self
    have hl : (l.erase x).length = l.length - 1 := List.length_erase_of_mem hx
    rw [List.length_cons] at h
    have I := nodup_perm m (l.erase x) h1.2 (fun y hy => (List.mem_erase_of_ne (fun e : y = x => h1.1 (e ▸ hy))).2 (hs y (List.mem_cons_of_mem _ hy))) (by omega)
    exact (List.Perm.cons x I).trans (List.perm_cons_erase hx).symm
theorem isP_of_mem {n : Nat} {l : List Int} (hl : l.length = n) (h : ∀ v : Nat, v < n → (v : Int) ∈ l) : isP n l := by
  have P := nodup_perm (idL n) l (idL_P n).2.1 (fun x hx => by
    have hb := (idL_P n).2.2 x hx
    have := h x.toNat (by omega)
    rwa [show ((x.toNat : Nat) : Int) = x by omega] at this) (by rw [idL_len, hl])
  exact ⟨hl, P.nodup_iff.1 (idL_P n).2.1, fun x hx => (idL_P n).2.2 x (P.mem_iff.2 hx)⟩
-- perm's functions, plainly.
theorem permGo_eq (n : Int) (hn : n ≤ 64) : ∀ (l : List Int) (m : List Bool), m.length = 64 → permGo n l m = if (∀ x ∈ l, 0 ≤ x ∧ x < n ∧ m.getD x.toNat false = false) ∧ l.Nodup then 0 else 9
  | [], m, _ => by simp [permGo]
  | x :: l, m, hm => by
    unfold permGo
    by_cases h1 : x < 0
    · rw [if_pos h1, if_neg (fun h => by have := (h.1 x List.mem_cons_self).1; omega)]
    rw [if_neg h1]
    by_cases h2 : x ≥ n
    · rw [if_pos h2, if_neg (fun h => by have := (h.1 x List.mem_cons_self).2.1; omega)]
    rw [if_neg h2]
    by_cases h3 : m.getD x.toNat false = true
    · rw [if_pos h3, if_neg (fun h => by have := (h.1 x List.mem_cons_self).2.2; rw [h3] at this; cases this)]
    rw [if_neg h3, permGo_eq n hn l (m.set x.toNat true) (by rw [List.length_set]; exact hm)]
    have hx : x.toNat < m.length := by omega
    have hset : ∀ y : Int, 0 ≤ y → ((m.set x.toNat true).getD y.toNat false = false ↔ y ≠ x ∧ m.getD y.toNat false = false) := by
      intro y hy
      rw [List.getD_eq_getElem?_getD, List.getElem?_set, List.getD_eq_getElem?_getD]
      by_cases g : x.toNat = y.toNat
      · rw [if_pos g, if_pos hx]
        have : y = x := by omega
        simp [this]
      · rw [if_neg g]
        have : y ≠ x := fun e => g (by rw [e])
        simp [this]
    have hiff : ((∀ z ∈ l, 0 ≤ z ∧ z < n ∧ (m.set x.toNat true).getD z.toNat false = false) ∧ l.Nodup) ↔ ((∀ z ∈ x :: l, 0 ≤ z ∧ z < n ∧ m.getD z.toNat false = false) ∧ (x :: l).Nodup) := by
      rw [List.nodup_cons]
      constructor
      · rintro ⟨a, b⟩
        refine ⟨fun z hz => ?_, fun hm => ?_, b⟩
        · rcases List.mem_cons.1 hz with rfl | hz
          · exact ⟨by omega, by omega, by cases hq : m.getD z.toNat false; rfl; exact absurd hq h3⟩
          · have := a z hz; exact ⟨this.1, this.2.1, ((hset z this.1).1 this.2.2).2⟩
        · have := a x hm; exact ((hset x this.1).1 this.2.2).1 rfl
      · rintro ⟨a, b, c⟩
        refine ⟨fun z hz => ?_, c⟩
        have := a z (List.mem_cons_of_mem _ hz)
        exact ⟨this.1, this.2.1, (hset z this.1).2 ⟨fun e => b (e ▸ hz), this.2.2⟩⟩
    by_cases g : (∀ z ∈ l, 0 ≤ z ∧ z < n ∧ (m.set x.toNat true).getD z.toNat false = false) ∧ l.Nodup
    · rw [if_pos g, if_pos (hiff.1 g)]
    · rw [if_neg g, if_neg (fun h => g (hiff.2 h))]
/-- A permutation of at most 64. -/
def okP (l : List Int) : Prop := l.length ≤ 64 ∧ isP l.length l
instance (l : List Int) : Decidable (okP l) := by unfold okP isP; infer_instance
theorem pcheck_eq (l : List Int) : perm_Check.f l = some (if okP l then 0 else 9) := by
  unfold perm_Check.f
  by_cases h : (l.length : Int) > 64
  · rw [if_pos h, if_neg (fun g : okP l => by have := g.1; omega)]
  · rw [if_neg h, permGo_eq _ (by omega) _ _ (by simp)]
    have hiff : ((∀ x ∈ l, 0 ≤ x ∧ x < (l.length : Int) ∧ (List.replicate 64 false).getD x.toNat false = false) ∧ l.Nodup) ↔ okP l := by
      have hz : ∀ j : Nat, (List.replicate 64 false).getD j false = false := fun j => by
        rw [List.getD_eq_getElem?_getD]
        by_cases g : j < 64
        · rw [List.getElem?_replicate_of_lt g]; rfl
        · rw [List.getElem?_eq_none (by simp; omega)]; rfl
      constructor
      · rintro ⟨a, b⟩; exact ⟨by omega, rfl, b, fun x hx => ⟨(a x hx).1, (a x hx).2.1⟩⟩
      · rintro ⟨_, _, b, c⟩; exact ⟨fun x hx => ⟨(c x hx).1, (c x hx).2, hz _⟩, b⟩
    by_cases g : okP l
    · rw [if_pos g, if_pos (hiff.2 g)]
    · rw [if_neg g, if_neg (fun e => g (hiff.1 e))]
theorem identity_l (n : Nat) (hn : n ≤ 64) (d : Nat) : ∀ i : Nat, i + d = n → Ev (fun k => perm_Identity.l0 k (idL i) n i) (idL n) := by
  induction d with
  | zero =>
    intro i hi
    obtain rfl : i = n := by omega
    refine Ev.no (fun k => ?_)
    simp only [perm_Identity.l0]; rw [if_neg (by omega)]
  | succ d ih =>
    intro i hi
    refine Ev.step (f := fun k => perm_Identity.l0 k (idL (i + 1)) n ((i + 1 : Nat) : Int)) (fun k => ?_) (ih (i + 1) (by omega))
    simp only [perm_Identity.l0]
    rw [if_pos (by omega), if_pos (by rw [idL_len]; omega), wsucc _ (by omega)]
    rw [show idL i ++ [(i : Int)] = idL (i + 1) by unfold idL; rw [List.range_succ, List.map_append]; rfl]
theorem identity_ev (n : Int) : Ev (fun k => perm_Identity.f k n) (if 0 ≤ n ∧ n ≤ 64 then idL n.toNat else []) := by
  have J : ∀ x : Bool, x = !decide (0 ≤ n ∧ n ≤ 64) → Ev (fun k => perm_Identity.j0 k n x) (if 0 ≤ n ∧ n ≤ 64 then idL n.toNat else []) := by
    intro x hx
    by_cases g : 0 ≤ n ∧ n ≤ 64
    · rw [decide_eq_true g] at hx; subst hx
      rw [if_pos g]
      obtain ⟨N, rfl⟩ := Int.eq_ofNat_of_zero_le g.1
      rw [Int.toNat_natCast]
      refine Ev.step (f := fun k => perm_Identity.l0 k (idL 0) N ((0 : Nat) : Int)) (fun k => ?_) (identity_l N (by omega) N 0 (by omega))
      simp only [perm_Identity.j0]; rw [if_neg (by decide)]; rfl
    · rw [decide_eq_false g] at hx; subst hx
      rw [if_neg g]
      refine Ev.no (fun k => ?_)
      simp only [perm_Identity.j0]; rw [if_pos (by decide)]
  unfold perm_Identity.f
  by_cases h : n < 0
  · simp only [if_pos h]; exact J true (by rw [decide_eq_false (by omega)]; rfl)
  · simp only [if_neg h]
    refine J _ ?_
    by_cases g : n > 64
    · rw [decide_eq_true g, decide_eq_false (by omega)]; rfl
    · rw [decide_eq_false g, decide_eq_true (by omega)]; rfl
theorem clone_eq {l : List Int} (h : l.length ≤ 64) : slices_Clone_int_int.f l = some l := by unfold slices_Clone_int_int.f; rw [if_pos (by omega)]
theorem rd_get (l : List Int) (i : Nat) : rd l (i : Int) = l.getD i 0 := rfl
-- is, the law's own word
theorem is_l1 (l : List Int) (hm : l.length < 9223372036854775807) (v : Int) (R : Bool) (next : l.count v = 1 → Ev (fun k => vernierlaw17_is.l0 k l (wrap64 (v + 1))) R) (hno : l.count v ≠ 1 → R = false) (d : Nat) : ∀ i : Nat, i + d = l.length →
    Ev (fun k => vernierlaw17_is.l1 k l v (((l.take i).count v : Nat) : Int) i) R := by
  induction d with
  | zero =>
    intro i hi
    rw [List.take_of_length_le (by omega)]
    by_cases g : l.count v = 1
    · refine Ev.step (f := fun k => vernierlaw17_is.l0 k l (wrap64 (v + 1))) (fun k => ?_) (next g)
      simp only [vernierlaw17_is.l1]; rw [if_neg (by omega), if_pos (by omega)]
    · refine Ev.no (fun k => ?_)
      simp only [vernierlaw17_is.l1]; rw [if_neg (by omega), if_neg (by omega), hno g]
  | succ d ih =>
    intro i hi
    have h1 : i < l.length := by omega
    have hc : (l.take i).count v ≤ i := Nat.le_trans List.count_le_length (by rw [List.length_take]; omega)
    have e1 : l.take (i + 1) = l.take i ++ [l.getD i 0] := by rw [List.take_succ_eq_append_getElem h1, List.getD_eq_getElem?_getD, List.getElem?_eq_getElem h1]; rfl
    have I := ih (i + 1) (by omega)
    rw [e1, List.count_append, List.count_singleton] at I
    by_cases g : l.getD i 0 = v
    · rw [g, if_pos (by simp)] at I
      refine Ev.step (f := fun k => vernierlaw17_is.l1 k l v (((l.take i).count v + 1 : Nat) : Int) ((i + 1 : Nat) : Int)) (fun k => ?_) I
      simp only [vernierlaw17_is.l1]
      rw [if_pos (by omega), if_pos (by omega), rd_get, if_pos g, wsucc _ (by omega), wsucc _ (by omega)]
    · rw [if_neg (by simpa using g), Nat.add_zero] at I
      refine Ev.step (f := fun k => vernierlaw17_is.l1 k l v (((l.take i).count v : Nat) : Int) ((i + 1 : Nat) : Int)) (fun k => ?_) I
      simp only [vernierlaw17_is.l1]
      rw [if_pos (by omega), if_pos (by omega), rd_get, if_neg g, wsucc i (by omega)]
theorem is_l0 (l : List Int) (hm : l.length < 9223372036854775807) (R : Bool) (hR : R = decide (l.length ≤ 64 ∧ ∀ v : Nat, v < l.length → l.count (v : Int) = 1)) (d : Nat) : ∀ i : Nat, i + d = l.length → (∀ v : Nat, v < i → l.count (v : Int) = 1) →
    Ev (fun k => vernierlaw17_is.l0 k l i) R := by
  induction d with
  | zero =>
    intro i hi hf
    refine Ev.no (fun k => ?_)
    simp only [vernierlaw17_is.l0]
    rw [if_neg (by omega), hR]
    congr 1
    rw [decide_eq_decide]
    exact ⟨fun h => ⟨by omega, fun v hv => hf v (by omega)⟩, fun h => by have := h.1; omega⟩
  | succ d ih =>
    intro i hi hf
    refine Ev.step (f := fun k => vernierlaw17_is.l1 k l i 0 ((0 : Nat) : Int)) (fun k => ?_) ?_
    · simp only [vernierlaw17_is.l0]; rw [if_pos (by omega)]; rfl
    · have := is_l1 l hm (i : Int) R (fun h => by rw [wsucc _ (by omega)]; exact ih (i + 1) (by omega) (fun v hv => by by_cases e : v = i; rw [e]; exact h; exact hf v (by omega))) (fun h => by rw [hR, decide_eq_false_iff_not]; intro g; exact h (g.2 i (by omega))) l.length 0 (by omega)
      simpa using this
theorem okP_iff (l : List Int) : okP l ↔ (l.length ≤ 64 ∧ ∀ v : Nat, v < l.length → l.count (v : Int) = 1) := by
  constructor
  · rintro ⟨h1, h2⟩
    refine ⟨h1, fun v hv => ?_⟩
    have hmem := (pig l.length l h2.2.1 h2.2.2).2 rfl v (by omega) (by omega)
    have := List.count_pos_iff.2 hmem
    have hle : l.count (v : Int) ≤ 1 := List.nodup_iff_count.1 h2.2.1 _
    omega
  · rintro ⟨h1, h2⟩
    exact ⟨h1, isP_of_mem rfl (fun v hv => List.count_pos_iff.1 (by rw [h2 v hv]; omega))⟩
theorem is_ev (l : List Int) (hm : l.length < 9223372036854775807) : Ev (fun k => vernierlaw17_is.f k l) (decide (okP l)) := by
  have := is_l0 l hm _ rfl l.length 0 (by omega) (fun v hv => by omega)
  rw [show decide (okP l) = decide (l.length ≤ 64 ∧ ∀ v : Nat, v < l.length → l.count (v : Int) = 1) by rw [decide_eq_decide]; exact okP_iff l]
  exact this
-- what undoes a permutation, and one behind another one.
def comp (p q : List Int) : List Int := mk q.length (fun i => p.getD (q.getD i 0).toNat 0)
theorem comp_len (p q : List Int) : (comp p q).length = q.length := mk_len _ _
theorem comp_get (p q : List Int) {i : Nat} (hi : i < q.length) : (comp p q).getD i 0 = p.getD (q.getD i 0).toNat 0 := mk_get _ _ _ hi
theorem comp_P {n : Nat} {p q : List Int} (hp : isP n p) (hq : isP n q) : isP n (comp p q) := by
  have hl := hq.1
  refine isP_of (by rw [comp_len, hl]) (fun i hi => ?_) (fun i j hi hj e => ?_)
  · rw [comp_get p q (by omega)]
    have := isP_get hq hi
    exact isP_get hp (by omega)
  · rw [comp_get p q (by omega), comp_get p q (by omega)] at e
    have a := isP_get hq hi
    have b := isP_get hq hj
    have := isP_inj hp (by omega) (by omega) e
    exact isP_inj hq hi hj (by omega)
theorem pty_comp {n : Nat} {p : List Int} (hp : isP n p) (d : Nat) : ∀ q : List Int, isP n q → nf n q ≤ d → pty (comp p q) = (pty p ^^ pty q) := by
  have base : ∀ q : List Int, isP n q → (∀ t, t < n → q.getD t 0 = (t : Int)) → pty (comp p q) = (pty p ^^ pty q) := by
    intro q hq h
    have e : q = idL n := ext_getD hq.1 (idL_len n) (fun t ht => by rw [h t ht, idL_get ht])
    have e2 : comp p q = p := by
      have hl := hq.1
      refine ext_getD (n := n) (by rw [comp_len, hl]) hp.1 (fun t ht => ?_)
      rw [comp_get p q (by omega), h t ht, Int.toNat_natCast]
    rw [e2, e, idL_pty, Bool.xor_false]
  induction d with
  | zero =>
    intro q hq hd
    refine base q hq (fun t ht => ?_)
    apply Classical.byContradiction
    intro hne
    obtain ⟨K, hK⟩ := Int.eq_ofNat_of_zero_le (isP_get hq ht).1
    have := nf_sw hq ht hK (by omega)
    omega
  | succ d ih =>
    intro q hq hd
    by_cases h : ∀ t, t < n → q.getD t 0 = (t : Int)
    · exact base q hq h
    · obtain ⟨i, h⟩ := Classical.not_forall.1 h
      obtain ⟨hi, hne⟩ := Classical.not_imp.1 h
      obtain ⟨K, hK⟩ := Int.eq_ofNat_of_zero_le (isP_get hq hi).1
      obtain ⟨hKn, hnf⟩ := nf_sw hq hi hK (by omega)
      have hKi : i ≠ K := by omega
      have hl := hq.1
      have I := ih (sw q i K) (sw_P hq hi hKn) (by omega)
      have e : comp p (sw q i K) = sw (comp p q) i K := by
        refine ext_getD (n := n) (by rw [comp_len, sw_len, hl]) (by rw [sw_len, comp_len, hl]) (fun t ht => ?_)
        rw [comp_get _ _ (by rw [sw_len]; omega), sw_get q (by omega) (by omega), sw_get _ (by rw [comp_len]; omega) (by rw [comp_len]; omega), comp_get p q (by omega), comp_get p q (by omega), comp_get p q (by omega)]
        split
        · rfl
        · split <;> rfl
      rw [e, pty_sw (comp_P hp hq) hi hKn hKi, pty_sw hq hi hKn hKi] at I
      revert I
      cases pty (comp p q) <;> cases pty p <;> cases pty q <;> simp
theorem inverse_l {n : Nat} {p : List Int} (hp : isP n p) (hn : n ≤ 64) (R : List Int × Int) (d : Nat) : ∀ (i : Nat) (q : List Int), i + d = n → q.length = n → (∀ j, j < i → q.getD (p.getD j 0).toNat 0 = (j : Int)) →
    (∀ q' : List Int, q'.length = n → (∀ j, j < n → q'.getD (p.getD j 0).toNat 0 = (j : Int)) → R = (q', 0)) → Ev (fun k => perm_Inverse.l0 k q p n i) R := by
  induction d with
  | zero =>
    intro i q hi hq h hR
    rw [hR q hq (fun j hj => h j (by omega))]
    refine Ev.no (fun k => ?_)
    simp only [perm_Inverse.l0]; rw [if_neg (by omega)]
  | succ d ih =>
    intro i q hi hq h hR
    have hb := isP_get hp (show i < n by omega)
    have hl := hp.1
    refine Ev.step (f := fun k => perm_Inverse.l0 k (q.set (p.getD i 0).toNat (i : Int)) p n ((i + 1 : Nat) : Int)) (fun k => ?_) (ih (i + 1) _ (by omega) (by rw [List.length_set, hq]) (fun j hj => ?_) hR)
    · simp only [perm_Inverse.l0]
      rw [if_pos (by omega), if_pos (by omega), if_pos (by omega), rd_get, if_pos (by omega), if_pos (by omega), wsucc _ (by omega)]
    · rw [getD_set _ _ _ _ (by omega)]
      by_cases e : (p.getD j 0).toNat = (p.getD i 0).toNat
      · rw [if_pos e]
        have hj2 := isP_get hp (show j < n by omega)
        have := isP_inj hp (show j < n by omega) (show i < n by omega) (by omega)
        omega
      · rw [if_neg e]
        by_cases g : j = i
        · rw [g] at e; exact absurd rfl e
        · exact h j (by omega)
/-- It is one, and undoes the other one, both ways. -/
theorem undo_P {n : Nat} {p a : List Int} (hp : isP n p) (ha : a.length = n) (h : ∀ j, j < n → a.getD (p.getD j 0).toNat 0 = (j : Int)) : isP n a ∧ ∀ t, t < n → p.getD (a.getD t 0).toNat 0 = (t : Int) := by
  have key : ∀ t, t < n → ∃ j, j < n ∧ p.getD j 0 = (t : Int) ∧ a.getD t 0 = (j : Int) := fun t ht => by
    obtain ⟨j, hj, e⟩ := isP_sur hp ht
    refine ⟨j, hj, e, ?_⟩
    have := h j hj
    rw [e, Int.toNat_natCast] at this; exact this
  refine ⟨isP_of ha (fun t ht => ?_) (fun s t hs ht e => ?_), fun t ht => ?_⟩
  · obtain ⟨j, hj, _, e⟩ := key t ht
    rw [e]; omega
  · obtain ⟨j, hj, e1, e2⟩ := key s hs
    obtain ⟨i, hi, f1, f2⟩ := key t ht
    rw [e2, f2] at e
    have : j = i := by omega
    subst this
    rw [e1] at f1; omega
  · obtain ⟨j, hj, e1, e2⟩ := key t ht
    rw [e2, Int.toNat_natCast]; exact e1
theorem inverse_ok {p : List Int} (h : okP p) : ∃ a, Ev (fun k => perm_Inverse.f k p) (a, 0) ∧ isP p.length a ∧ (∀ j, j < p.length → a.getD (p.getD j 0).toNat 0 = (j : Int)) ∧ ∀ t, t < p.length → p.getD (a.getD t 0).toNat 0 = (t : Int) := by
  -- the list that is meant
  have hex : ∃ a : List Int, a.length = p.length ∧ ∀ j, j < p.length → a.getD (p.getD j 0).toNat 0 = (j : Int) := by
    classical
    refine ⟨mk p.length (fun t => ((if h : ∃ j, j < p.length ∧ p.getD j 0 = (t : Int) then Classical.choose h else 0 : Nat) : Int)), mk_len _ _, fun j hj => ?_⟩
    have hb := isP_get h.2 hj
    rw [mk_get _ _ _ (by omega)]
    have hx : ∃ i, i < p.length ∧ p.getD i 0 = (((p.getD j 0).toNat : Nat) : Int) := ⟨j, hj, by omega⟩
    rw [dif_pos hx]
    have hc := Classical.choose_spec hx
    have := isP_inj h.2 hc.1 hj (by rw [hc.2]; omega)
    rw [this]
  obtain ⟨a, ha, hj⟩ := hex
  obtain ⟨u1, u2⟩ := undo_P h.2 ha hj
  refine ⟨a, ?_, u1, hj, u2⟩
  unfold perm_Inverse.f
  rw [pcheck_eq, if_pos h]
  simp only [Option.bind_some, if_true]
  rw [clone_eq h.1]
  simp only [Option.bind_some]
  refine inverse_l h.2 h.1 (a, 0) p.length 0 p (by omega) rfl (fun j hj => by omega) (fun q' hq' hh => ?_)
  congr 1
  refine ext_getD ha hq' (fun t ht => ?_)
  obtain ⟨j, hj1, e⟩ := isP_sur h.2 ht
  have e1 := hj j hj1
  have e2 := hh j hj1
  rw [e, Int.toNat_natCast] at e1 e2
  rw [e1, e2]
theorem inverse_no {p : List Int} (h : ¬ okP p) : Ev (fun k => perm_Inverse.f k p) (([] : List Int), 9) := by
  unfold perm_Inverse.f
  rw [pcheck_eq, if_neg h]
  exact Ev.now _
theorem alive17 : Ev (fun k => vernierlaw17_alive.f k) true := Ev.of vernierlaw17_alive.mono (k := 20) (by decide +kernel)
/-- Rows in the order of p, of c words each. -/
def rowsL (c : Nat) (l p : List Int) : List Int := mk (p.length * c) (fun t => l.getD ((p.getD (t / c) 0).toNat * c + t % c) 0)
theorem piece_eq (l : List Int) (a c : Nat) (h : (a + 1) * c ≤ l.length) : (l.take ((a + 1) * c)).drop (a * c) = mk c (fun j => l.getD (a * c + j) 0) := by
  have e : (a + 1) * c = a * c + c := Nat.succ_mul a c
  refine mk_eq (by rw [List.length_drop, List.length_take]; omega) (fun j hj => ?_)
  rw [List.getD_eq_getElem?_getD, List.getElem?_drop, List.getElem?_take, if_pos (by omega), List.getD_eq_getElem?_getD]
theorem mk_more (n c : Nat) (f : Nat → Int) : mk n f ++ mk c (fun j => f (n + j)) = mk (n + c) f := by
  refine mk_eq (by rw [List.length_append, mk_len, mk_len]) (fun k hk => ?_)
  by_cases g : k < n
  · rw [List.getD_eq_getElem?_getD, List.getElem?_append_left (by rw [mk_len]; exact g), ← List.getD_eq_getElem?_getD, mk_get _ _ _ g]
  · rw [List.getD_eq_getElem?_getD, List.getElem?_append_right (by rw [mk_len]; omega), mk_len, ← List.getD_eq_getElem?_getD, mk_get _ _ _ (by omega)]
    congr 1; omega
theorem rows_l {r c : Nat} {l p : List Int} (hp : isP r p) (hr : r ≤ 64) (hc : c ≤ 64) (hl : l.length = r * c) (d : Nat) : ∀ i : Nat, i + d = r →
    Ev (fun k => perm_Rows.l0 k p (p.length : Int) i r c l r c (mk (i * c) (fun t => l.getD ((p.getD (t / c) 0).toNat * c + t % c) 0))) ((r : Int), (c : Int), rowsL c l p, 0) := by
  have hpl := hp.1
  have hb : r * c ≤ 64 * 64 := Nat.mul_le_mul hr hc
  induction d with
  | zero =>
    intro i hi
    obtain rfl : i = r := by omega
    refine Ev.no (fun k => ?_)
    simp only [perm_Rows.l0]; rw [if_neg (by omega)]
    unfold rowsL; rw [hpl]
  | succ d ih =>
    intro i hi
    have hbb := isP_get hp (show i < r by omega)
    obtain ⟨K, hK⟩ := Int.eq_ofNat_of_zero_le hbb.1
    have hKr : K < r := by omega
    have e1 : (K + 1) * c = K * c + c := Nat.succ_mul K c
    have e2 : (K + 1) * c ≤ r * c := Nat.mul_le_mul_right c hKr
    have e3 : (i + 1) * c = i * c + c := Nat.succ_mul i c
    have e4 : (i + 1) * c ≤ r * c := Nat.mul_le_mul_right c (by omega)
    refine Ev.step (f := fun k => perm_Rows.l0 k p (p.length : Int) ((i + 1 : Nat) : Int) r c l r c (mk ((i + 1) * c) (fun t => l.getD ((p.getD (t / c) 0).toNat * c + t % c) 0))) (fun k => ?_) (ih (i + 1) (by omega))
    simp only [perm_Rows.l0]
    rw [if_pos (by omega), if_pos (by omega), if_pos (by omega), rd_get, hK, wsucc K (by omega), wmul K c (by omega), wmul (K + 1) c (by omega), if_pos (by omega), if_pos (by omega), if_pos (by omega), Int.toNat_natCast, Int.toNat_natCast, piece_eq l K c (by omega), if_pos (by rw [mk_len, mk_len]; omega), wsucc i (by omega)]
    congr 1
    rw [e3, ← mk_more]
    congr 1
    refine mk_congr (fun j hj => ?_)
    rw [place_div hj, place_mod hj, hK, Int.toNat_natCast]
def rowsV (m n : Int) (l p : List Int) : Int × Int × List Int × Int :=
  if okMat m n l then (if okP p then (if (p.length : Int) = m then (m, n, rowsL n.toNat l p, 0) else (0, 0, [], 11)) else (0, 0, [], 9)) else (0, 0, [], 11)
theorem rows_ev (m n : Int) (l p : List Int) : Ev (fun k => perm_Rows.f k m n l p) (rowsV m n l p) := by
  unfold perm_Rows.f rowsV
  rw [check_eq, pcheck_eq]
  by_cases h1 : okMat m n l
  · simp only [if_pos h1, Option.bind_some, if_true]
    by_cases h2 : okP p
    · simp only [if_pos h2, if_true]
      by_cases h3 : (p.length : Int) = m
      · simp only [if_pos h3]
        obtain ⟨a1, a2, a3, a4, a5⟩ := h1
        obtain ⟨C, rfl⟩ := Int.eq_ofNat_of_zero_le (show 0 ≤ n by omega)
        subst h3
        have hl : l.length = p.length * C := by exact_mod_cast a5
        have L := rows_l (r := p.length) (c := C) (l := l) (p := p) h2.2 h2.1 (by omega) hl p.length 0 (by omega)
        rw [Nat.zero_mul] at L
        exact L
      · simp only [if_neg h3]; exact Ev.now _
    · simp only [if_neg h2, if_neg (show ¬ (9 : Int) = 0 by decide)]; exact Ev.now _
  · simp only [if_neg h1, Option.bind_some, if_neg (show ¬ (11 : Int) = 0 by decide)]; exact Ev.now _
theorem rowsL_back {r c : Nat} {l p q : List Int} (hp : isP r p) (hq : isP r q) (hc : 0 < c) (hl : l.length = r * c) (h : ∀ t, t < r → p.getD (q.getD t 0).toNat 0 = (t : Int)) : rowsL c (rowsL c l p) q = l := by
  have hql := hq.1
  have hpl := hp.1
  symm
  unfold rowsL
  rw [hql, hpl]
  refine mk_eq hl (fun t ht => ?_)
  have hd := div_lt_of (k := t) (r := r) (c := c) ht
  have hb := isP_get hq hd
  have hpp := place_lt (i := (q.getD (t / c) 0).toNat) (j := t % c) (r := r) (c := c) (by omega) (Nat.mod_lt _ hc)
  rw [mk_get _ _ _ hpp, place_div (Nat.mod_lt _ hc), place_mod (Nat.mod_lt _ hc), h _ hd, Int.toNat_natCast, place_of]
theorem law_l {r c : Nat} {l p : List Int} (hp : isP r p) (h0 : 1 ≤ r) (h1 : 1 ≤ c) (hr : r ≤ 64) (hc : c ≤ 64) (hl : l.length = r * c) (d : Nat) : ∀ i : Nat, i + d = r →
    Ev (fun k => vernierlaw17_PermRows.l0 k p 0 i r c l r c (rowsL c l p)) true := by
  have hpl := hp.1
  have hb : r * c ≤ 64 * 64 := Nat.mul_le_mul hr hc
  have hrl : (rowsL c l p).length = r * c := by unfold rowsL; rw [mk_len, hpl]
  have hok : okP p := ⟨by omega, by rw [hpl]; exact hp⟩
  induction d with
  | zero =>
    intro i hi
    obtain ⟨a, hinv, u1, u2, u3⟩ := inverse_ok hok
    rw [hpl] at u1 u3
    have R := rows_ev (r : Int) (c : Int) (rowsL c l p) a
    have hal := u1.1
    unfold rowsV at R
    rw [if_pos (show okMat r c (rowsL c l p) from ⟨by omega, by omega, by omega, by omega, by rw [hrl]; exact_mod_cast rfl⟩), if_pos (show okP a from ⟨by omega, by rw [hal]; exact u1⟩), if_pos (by omega), Int.toNat_natCast, rowsL_back hp u1 h1 hl u3] at R
    refine Ev.step (f := fun k => (perm_Inverse.f k p).bind fun bt167 => ((perm_Rows.f k r c (rowsL c l p) bt167.1).bind fun bt171 => (if (0 : Int) = 0 then (if bt167.2 = 0 then (if bt171.2.2.2 = 0 then ((shape_Same.f k r c l bt171.1 bt171.2.1 bt171.2.2.1).bind fun t178 => (some t178)) else (some false)) else (some false)) else (some false)))) (fun k => ?_) (Ev.bind hinv (Ev.bind R ?_))
    · simp only [vernierlaw17_PermRows.l0]; rw [if_neg (by omega)]
    · simp only [if_true]
      refine Ev.bind (shape_same_ev r c l r c l (by omega)) ?_
      rw [decide_eq_true (show (r : Int) = r ∧ (c : Int) = c ∧ l = l from ⟨rfl, rfl, rfl⟩)]; exact Ev.now _
  | succ d ih =>
    intro i hi
    have hbb := isP_get hp (show i < r by omega)
    obtain ⟨K, hK⟩ := Int.eq_ofNat_of_zero_le hbb.1
    have hKr : K < r := by omega
    have e1 : (K + 1) * c = K * c + c := Nat.succ_mul K c
    have e2 : (K + 1) * c ≤ r * c := Nat.mul_le_mul_right c hKr
    have e3 : (i + 1) * c = i * c + c := Nat.succ_mul i c
    have e4 : (i + 1) * c ≤ r * c := Nat.mul_le_mul_right c (by omega)
    have eq1 : mk c (fun j => (rowsL c l p).getD (i * c + j) 0) = mk c (fun j => l.getD (K * c + j) 0) := by
      refine mk_congr (fun j hj => ?_)
      have := place_lt (i := i) (j := j) (r := r) (c := c) (by omega) hj
      unfold rowsL
      rw [mk_get _ _ _ (by rw [hpl]; exact this), place_div hj, place_mod hj, hK, Int.toNat_natCast]
    have S := same_ev (mk c (fun j => l.getD (K * c + j) 0)) (mk c (fun j => l.getD (K * c + j) 0)) (by rw [mk_len]; omega)
    rw [decide_eq_true rfl] at S
    refine Ev.step (f := fun k => (vernierref01_Same.f k (mk c (fun j => l.getD (K * c + j) 0)) (mk c (fun j => l.getD (K * c + j) 0))).bind fun t166 => (if t166 = true then (vernierlaw17_PermRows.l0 k p 0 ((i + 1 : Nat) : Int) r c l r c (rowsL c l p)) else (some false))) (fun k => ?_) (Ev.bind S ?_)
    · simp only [vernierlaw17_PermRows.l0]
      rw [if_pos (by omega), wsucc i (by omega), wmul i c (by omega), wmul (i + 1) c (by omega), if_pos (by omega), if_pos (by omega), if_pos (by omega), if_pos (by omega), if_pos (by omega), rd_get, hK, wsucc K (by omega), wmul K c (by omega), wmul (K + 1) c (by omega), if_pos (by omega), if_pos (by omega), if_pos (by omega)]
      simp only [Int.toNat_natCast]
      rw [piece_eq l K c (by omega), piece_eq _ i c (by omega), eq1]
    · simp only [if_true]; exact ih (i + 1) (by omega)
theorem PermRows_pure (m n : Int) (l p : List Int) (hp : p.length < 9223372036854775807) : Ev (fun k => vernierlaw17_PermRows.f k m n l p) true := by
  unfold vernierlaw17_PermRows.f
  refine Ev.bind alive17 ?_
  simp only [if_true]
  refine Ev.bind (rows_ev m n l p) ?_
  rw [check_eq]
  unfold rowsV
  by_cases h1 : okMat m n l
  · simp only [if_pos h1, Option.bind_some, if_true]
    refine Ev.bind (is_ev p hp) ?_
    by_cases h2 : okP p
    · rw [decide_eq_true h2]
      simp only [if_pos h2, if_true]
      by_cases h3 : (p.length : Int) = m
      · simp only [if_pos h3]
        obtain ⟨a1, a2, a3, a4, a5⟩ := h1
        obtain ⟨C, rfl⟩ := Int.eq_ofNat_of_zero_le (show 0 ≤ n by omega)
        subst h3
        have hl : l.length = p.length * C := by exact_mod_cast a5
        simp only [Int.toNat_natCast]
        rw [show ((rowsL C l p).length : Int) = (l.length : Int) by unfold rowsL; rw [mk_len, hl]]
        simp only [if_true]
        exact law_l (r := p.length) (c := C) h2.2 (by omega) (by omega) h2.1 (by omega) hl p.length 0 (by omega)
      · simp only [if_neg h3, if_true]; exact Ev.now _
    · rw [decide_eq_false h2]
      simp only [if_neg h2, if_neg (show ¬ (false = true) by decide), if_true]; exact Ev.now _
  · simp only [if_neg h1, Option.bind_some, if_neg (show ¬ (11 : Int) = 0 by decide), if_true]; exact Ev.now _
theorem PermRows_walk (W : World) (m n : Int) (A : Option Addr) (c : Nat) (l : List Int) (_wm : (Lit.int .i64 m).wf = true) (_wn : (Lit.int .i64 n).wf = true) (hr : Kd.C (Kd.int .u64) W A l.length l) (hc : l.length ≤ c) (_hm : l.length ≤ maxLen) (_hw : ∀ x ∈ l, (Lit.int .u64 x).wf = true)
    (A' : Option Addr) (c' : Nat) (l' : List Int) (hr' : Kd.C (Kd.int .i64) W A' l'.length l') (hc' : l'.length ≤ c') (_hm' : l'.length ≤ maxLen) (_hw' : ∀ x ∈ l', (Lit.int .i64 x).wf = true) (hy' : l'.length * 8 ≤ 140737488351232) :
    Calls Try.prog 10 #[.agg #[.int .i64 m, .int .i64 n, .slice A l.length c], .slice A' l'.length c'] W fun e w' => e = .returned (.bool true) ∧ Below W.heap.size W w' := by
  obtain ⟨k, h⟩ := (PermRows_pure m n l l' (by omega)).rounds
  exact (vernierlaw17_PermRows.calls k m n A c l A' c' l' true W hr hc hr' hc' h).mono fun e w' h => h
end Go.Proofs.Ytceghmceoliplaa.Pure
