/- ViewTells: which views may be, any place's word, the matrix of any, are as the page says. For every list of words, view and place. -/
import Derived.Test.YtdkmmelbadcpjaaPViewTellsx1
import Derived.Test.YtdkmmelbadcpjaaPViewTellsx2
import Derived.Test.YtdkmmelbadcpjaaPViewTellsx3
namespace Go.Proofs.Ytdkmmelbadcpjaa.Pure
open Go.RowKit Go.Proofs.Ytdkmmelbadcpjaa.PViewTells Go.Proofs.YtdkmmelbadcpjaaW.PrintWords Go.Proofs.YtdkmmelbadcpjaaW.PrintLast Go.Proofs.YtdkmmelbadcpjaaW.PrintMore
-- Whole numbers that fit; places in a matrix; lists made of a function.
theorem w64 {x : Int} (h0 : -9223372036854775808 ≤ x) (h1 : x < 9223372036854775808) : wrap64 x = x := by unfold wrap64; omega
theorem wN (n : Nat) (h : n < 9223372036854775808) : wrap64 (n : Int) = (n : Int) := w64 (by omega) (by omega)
theorem wmul (a b : Nat) (h : a * b < 9223372036854775808) : wrap64 ((a : Int) * (b : Int)) = ((a * b : Nat) : Int) := by rw [← Int.natCast_mul]; exact wN _ h
theorem wadd (a b : Nat) (h : a + b < 9223372036854775808) : wrap64 ((a : Int) + (b : Int)) = ((a + b : Nat) : Int) := by rw [← Int.natCast_add]; exact wN _ h
theorem wsucc (a : Nat) (h : a + 1 < 9223372036854775808) : wrap64 ((a : Int) + 1) = ((a + 1 : Nat) : Int) := wadd a 1 h
theorem place_lt {i j r c : Nat} (hi : i < r) (hj : j < c) : i * c + j < r * c := by
  have : (i + 1) * c ≤ r * c := Nat.mul_le_mul_right c hi
  rw [Nat.add_mul, Nat.one_mul] at this; omega
theorem place_div {i j c : Nat} (hj : j < c) : (i * c + j) / c = i := by
  rw [Nat.mul_comm, Nat.mul_add_div (by omega), Nat.div_eq_of_lt hj, Nat.add_zero]
theorem place_mod {i j c : Nat} (hj : j < c) : (i * c + j) % c = j := by
  rw [Nat.mul_comm, Nat.mul_add_mod, Nat.mod_eq_of_lt hj]
theorem place_of (k c : Nat) : k / c * c + k % c = k := by rw [Nat.mul_comm]; exact Nat.div_add_mod k c
theorem div_lt_of {k r c : Nat} (h : k < r * c) : k / c < r := Nat.div_lt_of_lt_mul (by rw [Nat.mul_comm]; exact h)
theorem mod_lt_of {k r c : Nat} (h : k < r * c) : k % c < c := Nat.mod_lt _ (by rcases Nat.eq_zero_or_pos c with rfl | h' <;> omega)
def mk (n : Nat) (f : Nat → Int) : List Int := (List.range n).map f
theorem mk_len (n : Nat) (f : Nat → Int) : (mk n f).length = n := by simp [mk]
theorem mk_get (n : Nat) (f : Nat → Int) (k : Nat) (h : k < n) : (mk n f).getD k 0 = f k := by
  simp [mk, List.getD_eq_getElem?_getD, h]
theorem rd_mk (n : Nat) (f : Nat → Int) (k : Nat) (h : k < n) : rd (mk n f) (k : Int) = f k := mk_get n f k h
theorem rd_nat (l : List Int) (k : Nat) : rd l (k : Int) = l.getD k 0 := rfl
theorem mk_congr {n : Nat} {f g : Nat → Int} (h : ∀ k, k < n → f k = g k) : mk n f = mk n g := List.map_congr_left (fun k hk => h k (List.mem_range.1 hk))
theorem mk_set (n : Nat) (f : Nat → Int) (p : Nat) (v : Int) : (mk n f).set p v = mk n (fun k => if k = p then v else f k) := by
  apply List.ext_getElem
  · simp [mk]
  · intro i h1 h2
    simp only [mk, List.length_set, List.length_map, List.length_range] at h1
    rw [List.getElem_set]
    simp only [mk, List.getElem_map, List.getElem_range]
    by_cases e : p = i
    · subst e; simp
    · rw [if_neg e, if_neg (fun h => e h.symm)]
theorem mk_const (n : Nat) (v : Int) : List.replicate n v = mk n (fun _ => v) := by
  apply List.ext_getElem
  · simp [mk]
  · intro i h1 h2; simp [mk]
theorem mk_self (l : List Int) : mk l.length (fun k => l.getD k 0) = l := by
  apply List.ext_getElem
  · simp [mk]
  · intro i h1 h2
    simp only [mk, List.getElem_map, List.getElem_range]
    rw [List.getD_eq_getElem?_getD, List.getElem?_eq_getElem h2]; rfl
theorem mk_eq {n : Nat} {f : Nat → Int} {l : List Int} (hl : l.length = n) (h : ∀ k, k < n → l.getD k 0 = f k) : l = mk n f := by
  subst hl
  exact (mk_self l).symm.trans (mk_congr h)
theorem Ev.no {α : Type} {g : Nat → Option α} {r : α} (h : ∀ k, g (k + 1) = some r) : Ev g r := Ev.step (f := fun _ => some r) h (Ev.now r)
-- What the printed functions of the package view come to.
def okView (m n s o z : Int) : Prop := 0 ≤ m ∧ m ≤ 64 ∧ 0 ≤ n ∧ n ≤ 64 ∧ n ≤ s ∧ s ≤ 1048576 ∧ 0 ≤ o ∧ o ≤ 1048576 ∧ (m = 0 ∨ n = 0 ∨ o + (m - 1) * s + n - 1 < z)
instance (m n s o z : Int) : Decidable (okView m n s o z) := by unfold okView; infer_instance
theorem vside_eq (n : Int) : view_side.f n = some (decide (0 ≤ n ∧ n ≤ 64)) := by
  unfold view_side.f
  by_cases h : n ≥ 0
  · rw [if_pos h]; congr 1; rw [decide_eq_decide]; omega
  · rw [if_neg h, decide_eq_false (by omega)]
theorem mul_bd {a s : Int} (h0 : 0 ≤ a) (h1 : a ≤ 64) (h2 : 0 ≤ s) (h3 : s ≤ 1048576) : 0 ≤ a * s ∧ a * s ≤ 67108864 :=
  ⟨Int.mul_nonneg h0 h2, by have := Int.mul_le_mul h1 h3 h2 (by omega); omega⟩
theorem last_wrap {m n s o : Int} (h1 : 1 ≤ m) (h2 : m ≤ 64) (h3 : 0 ≤ n) (h4 : n ≤ 64) (h5 : 0 ≤ s) (h6 : s ≤ 1048576) (h7 : 0 ≤ o) (h8 : o ≤ 1048576) :
    wrap64 ((wrap64 ((wrap64 (o + (wrap64 ((wrap64 (m - 1)) * s)))) + n)) - 1) = o + (m - 1) * s + n - 1 := by
  have h := mul_bd (a := m - 1) (by omega) (by omega) h5 h6
  rw [w64 (x := m - 1) (by omega) (by omega)]
  generalize (m - 1) * s = q at *
  rw [w64 (x := q) (by omega) (by omega), w64 (x := o + q) (by omega) (by omega), w64 (x := o + q + n) (by omega) (by omega), w64 (by omega) (by omega)]
theorem vlast_eq {m n s o : Int} (h1 : 0 ≤ m) (h2 : m ≤ 64) (h3 : 0 ≤ n) (h4 : n ≤ 64) (h5 : 0 ≤ s) (h6 : s ≤ 1048576) (h7 : 0 ≤ o) (h8 : o ≤ 1048576) : view_last.f m n s o = some (if m = 0 ∨ n = 0 then -1 else o + (m - 1) * s + n - 1) := by
  unfold view_last.f
  by_cases a : m = 0
  · rw [if_pos a, if_pos (.inl a)]
  · by_cases b : n = 0
    · rw [if_neg a, if_pos b, if_pos (.inr b)]
    · rw [if_neg a, if_neg b, if_neg (by omega), last_wrap (by omega) h2 h3 h4 h5 h6 h7 h8]
theorem vcheck_eq (m n s o z : Int) (hz : 0 ≤ z) : view_Check.f m n s o z = some (if okView m n s o z then 0 else 11) := by
  unfold view_Check.f
  rw [vside_eq, Option.bind_some]
  by_cases h1 : 0 ≤ m ∧ m ≤ 64
  · rw [decide_eq_true h1, if_pos rfl, vside_eq, Option.bind_some]
    by_cases h2 : 0 ≤ n ∧ n ≤ 64
    · rw [decide_eq_true h2, if_pos rfl]
      by_cases h3 : s < n
      · rw [if_pos h3, if_neg (fun h : okView m n s o z => by have := h.2.2.2.2.1; omega)]
      rw [if_neg h3]
      by_cases h4 : s > 1048576
      · rw [if_pos h4, if_neg (fun h : okView m n s o z => by have := h.2.2.2.2.2.1; omega)]
      rw [if_neg h4]
      by_cases h5 : o < 0
      · rw [if_pos h5, if_neg (fun h : okView m n s o z => by have := h.2.2.2.2.2.2.1; omega)]
      rw [if_neg h5]
      by_cases h6 : o > 1048576
      · rw [if_pos h6, if_neg (fun h : okView m n s o z => by have := h.2.2.2.2.2.2.2.1; omega)]
      rw [if_neg h6, vlast_eq h1.1 h1.2 h2.1 h2.2 (by omega) (by omega) (by omega) (by omega), Option.bind_some]
      by_cases h7 : m = 0 ∨ n = 0
      · rw [if_pos h7, if_neg (by omega), if_pos (show okView m n s o z from ⟨h1.1, h1.2, h2.1, h2.2, by omega, by omega, by omega, by omega, by omega⟩)]
      · rw [if_neg h7]
        by_cases h8 : o + (m - 1) * s + n - 1 ≥ z
        · rw [if_pos h8, if_neg (fun h : okView m n s o z => by have := h.2.2.2.2.2.2.2.2; omega)]
        · rw [if_neg h8, if_pos (show okView m n s o z from ⟨h1.1, h1.2, h2.1, h2.2, by omega, by omega, by omega, by omega, by omega⟩)]
    · rw [decide_eq_false h2, if_neg (by decide), if_neg (fun h : okView m n s o z => h2 ⟨h.2.2.1, h.2.2.2.1⟩)]
  · rw [decide_eq_false h1, if_neg (by decide), if_neg (fun h : okView m n s o z => h1 ⟨h.1, h.2.1⟩)]
theorem vmay_eq (m n s o z : Int) : vernierlaw15_may.f m n s o z = some (decide (okView m n s o z)) := by
  unfold vernierlaw15_may.f
  by_cases a : m < 0
  · rw [if_pos a, decide_eq_false (fun h : okView m n s o z => by have := h.1; omega)]
  rw [if_neg a]
  by_cases b : m > 64
  · rw [if_pos b, decide_eq_false (fun h : okView m n s o z => by have := h.2.1; omega)]
  rw [if_neg b]
  by_cases c : n < 0
  · rw [if_pos c, decide_eq_false (fun h : okView m n s o z => by have := h.2.2.1; omega)]
  rw [if_neg c]
  by_cases d : n > 64
  · rw [if_pos d, decide_eq_false (fun h : okView m n s o z => by have := h.2.2.2.1; omega)]
  rw [if_neg d]
  by_cases h3 : s < n
  · rw [if_pos h3, decide_eq_false (fun h : okView m n s o z => by have := h.2.2.2.2.1; omega)]
  rw [if_neg h3]
  by_cases h4 : s > 1048576
  · rw [if_pos h4, decide_eq_false (fun h : okView m n s o z => by have := h.2.2.2.2.2.1; omega)]
  rw [if_neg h4]
  by_cases h5 : o < 0
  · rw [if_pos h5, decide_eq_false (fun h : okView m n s o z => by have := h.2.2.2.2.2.2.1; omega)]
  rw [if_neg h5]
  by_cases h6 : o > 1048576
  · rw [if_pos h6, decide_eq_false (fun h : okView m n s o z => by have := h.2.2.2.2.2.2.2.1; omega)]
  rw [if_neg h6]
  by_cases h7 : m = 0
  · rw [if_pos h7, decide_eq_true (show okView m n s o z from ⟨by omega, by omega, by omega, by omega, by omega, by omega, by omega, by omega, .inl h7⟩)]
  rw [if_neg h7]
  by_cases h8 : n = 0
  · rw [if_pos h8, decide_eq_true (show okView m n s o z from ⟨by omega, by omega, by omega, by omega, by omega, by omega, by omega, by omega, .inr (.inl h8)⟩)]
  rw [if_neg h8, last_wrap (by omega) (by omega) (by omega) (by omega) (by omega) (by omega) (by omega) (by omega)]
  congr 1
  rw [decide_eq_decide]
  exact ⟨fun h => ⟨by omega, by omega, by omega, by omega, by omega, by omega, by omega, by omega, .inr (.inr h)⟩, fun h => by have := h.2.2.2.2.2.2.2.2; omega⟩
theorem place_view {m n s o z i j : Int} (h : okView m n s o z) (hi : 0 ≤ i) (hi' : i < m) (hj : 0 ≤ j) (hj' : j < n) :
    wrap64 ((wrap64 (o + (wrap64 (i * s)))) + j) = o + i * s + j ∧ 0 ≤ o + i * s + j ∧ o + i * s + j < z := by
  obtain ⟨h1, h2, h3, h4, h5, h6, h7, h8, h9⟩ := h
  have b := mul_bd (a := i) (s := s) hi (by omega) (by omega) h6
  have c : i * s ≤ (m - 1) * s := Int.mul_le_mul_of_nonneg_right (by omega) (by omega)
  generalize i * s = p at *
  generalize (m - 1) * s = q at *
  rw [w64 (x := p) (by omega) (by omega), w64 (x := o + p) (by omega) (by omega), w64 (by omega) (by omega)]
  omega
theorem get_eq (l : List Int) (m n s o i j : Int) : view_Get.f l m n s o i j = some (if okView m n s o l.length ∧ 0 ≤ i ∧ i < m ∧ 0 ≤ j ∧ j < n then rd l (o + i * s + j) else 0) := by
  unfold view_Get.f
  rw [vcheck_eq _ _ _ _ _ (Int.natCast_nonneg _), Option.bind_some]
  by_cases h : okView m n s o l.length
  · rw [if_pos h, if_pos rfl]
    by_cases a : i < 0
    · rw [if_pos a, if_neg (by omega)]
    rw [if_neg a]
    by_cases b : i ≥ m
    · rw [if_pos b, if_neg (by omega)]
    rw [if_neg b]
    by_cases c : j < 0
    · rw [if_pos c, if_neg (by omega)]
    rw [if_neg c]
    by_cases d : j ≥ n
    · rw [if_pos d, if_neg (by omega)]
    rw [if_neg d]
    obtain ⟨p1, p2, p3⟩ := place_view (i := i) (j := j) h (by omega) (by omega) (by omega) (by omega)
    rw [p1, if_pos p2, if_pos p3, if_pos ⟨h, by omega, by omega, by omega, by omega⟩]
  · rw [if_neg h, if_neg (by decide), if_neg (fun k => h k.1)]
-- What the printed functions of the package shape come to.
def okMat (m n : Int) (l : List Int) : Prop := 1 ≤ m ∧ m ≤ 64 ∧ 1 ≤ n ∧ n ≤ 64 ∧ (l.length : Int) = m * n
instance (m n : Int) (l : List Int) : Decidable (okMat m n l) := by unfold okMat; infer_instance
theorem prod_le {m n : Int} (h0 : 1 ≤ m) (h1 : m ≤ 64) (h2 : 1 ≤ n) (h3 : n ≤ 64) : 1 ≤ m * n ∧ m * n ≤ 4096 := by
  constructor
  · have := Int.mul_le_mul h0 h2 (by omega) (by omega); omega
  · have := Int.mul_le_mul h1 h3 (by omega) (by omega); omega
theorem wprod {m n : Int} (h0 : 1 ≤ m) (h1 : m ≤ 64) (h2 : 1 ≤ n) (h3 : n ≤ 64) : wrap64 (m * n) = m * n := by
  have := prod_le h0 h1 h2 h3; exact w64 (by omega) (by omega)
theorem side_eq (n : Int) : shape_side.f n = some (decide (1 ≤ n ∧ n ≤ 64)) := by
  unfold shape_side.f
  by_cases h : n ≥ 1
  · rw [if_pos h]; congr 1; rw [decide_eq_decide]; omega
  · rw [if_neg h]; congr 1; rw [eq_comm, decide_eq_false_iff_not]; omega
theorem new_ok {m n : Int} (h0 : 1 ≤ m) (h1 : m ≤ 64) (h2 : 1 ≤ n) (h3 : n ≤ 64) : shape_New.f m n = some (m, n, List.replicate (m * n).toNat 0, 0) := by
  have hp := prod_le h0 h1 h2 h3
  unfold shape_New.f
  rw [side_eq, Option.bind_some, decide_eq_true ⟨h0, h1⟩, if_pos rfl, side_eq, Option.bind_some, decide_eq_true ⟨h2, h3⟩, if_pos rfl, wprod h0 h1 h2 h3, if_pos (by omega), if_pos (by omega)]
theorem same_l (a b : List Int) (hl : a.length = b.length) (hm : a.length ≤ 9223372036854775807) (d : Nat) : ∀ i : Nat, i + d = a.length → Ev (fun k => vernierref01_Same.l0 k a b i) (decide (a.drop i = b.drop i)) := by
  induction d with
  | zero =>
    intro i hi
    refine Ev.no (fun k => ?_)
    simp only [vernierref01_Same.l0]; rw [if_neg (by omega), List.drop_of_length_le (by omega), List.drop_of_length_le (by omega)]; rfl
  | succ d ih =>
    intro i hi
    have h1 : i < a.length := by omega
    have h2 : i < b.length := by omega
    have e1 : a.drop i = a.getD i 0 :: a.drop (i + 1) := by rw [List.getD_eq_getElem?_getD, List.getElem?_eq_getElem h1, List.drop_eq_getElem_cons h1]; rfl
    have e2 : b.drop i = b.getD i 0 :: b.drop (i + 1) := by rw [List.getD_eq_getElem?_getD, List.getElem?_eq_getElem h2, List.drop_eq_getElem_cons h2]; rfl
    have hs : ∀ k, vernierref01_Same.l0 (k + 1) a b i = if a.getD i 0 = b.getD i 0 then vernierref01_Same.l0 k a b ((i + 1 : Nat) : Int) else some false := fun k => by
      simp only [vernierref01_Same.l0]; rw [if_pos (by omega), if_pos (by omega), if_pos (by omega), rd_nat, rd_nat, wsucc _ (by omega)]
    by_cases e : a.getD i 0 = b.getD i 0
    · refine Ev.step (f := fun k => vernierref01_Same.l0 k a b ((i + 1 : Nat) : Int)) (fun k => by rw [hs, if_pos e]) ?_
      have := ih (i + 1) (by omega)
      rw [e1, e2, e]
      simpa using this
    · refine Ev.no (fun k => ?_)
      rw [hs, if_neg e, e1, e2, decide_eq_false (fun h => e (List.cons.inj h).1)]
theorem same_ev (a b : List Int) (hm : a.length ≤ 9223372036854775807) : Ev (fun k => vernierref01_Same.f k a b) (decide (a = b)) := by
  by_cases h : a.length = b.length
  · refine Ev.congr (f := fun k => vernierref01_Same.l0 k a b ((0 : Nat) : Int)) (fun k => ?_) ?_
    · unfold vernierref01_Same.f; rw [if_pos (by omega)]; rfl
    · simpa using same_l a b h hm a.length 0 (by omega)
  · refine Ev.congr (f := fun _ => some false) (fun k => ?_) ?_
    · unfold vernierref01_Same.f; rw [if_neg (by omega)]
    · rw [decide_eq_false (fun e => h (by rw [e]))]; exact Ev.now _
-- view.Copy: the matrix of a view.
theorem mkSnoc' (n : Nat) (f : Nat → Int) : mk n f ++ [f n] = mk (n + 1) f := by simp [mk, List.range_succ]
theorem mk_at {n : Nat} {f : Nat → Int} {k : Nat} (h : k < n) : (mk n f)[k]? = some (f k) := by simp [mk, h]
def vf (l : List Int) (o s c k : Nat) : Int := l.getD (o + k / c * s + k % c) 0
theorem row_step {l : List Int} {r c s o i : Nat} (hc : 1 ≤ c) (hi : i < r) (hin : o + i * s + c ≤ l.length) :
    view_Copy.row (mk (r * c) (fun k => if k / c < i then vf l o s c k else 0)) l ((i * c : Nat) : Int) ((o + i * s : Nat) : Int) (c : Int) = mk (r * c) (fun k => if k / c < i + 1 then vf l o s c k else 0) := by
  have hp : (i + 1) * c ≤ r * c := Nat.mul_le_mul_right _ hi
  rw [Nat.add_mul, Nat.one_mul] at hp
  unfold view_Copy.row
  rw [show ((o + i * s : Nat) : Int) + (c : Int) = ((o + i * s + c : Nat) : Int) by omega, Int.toNat_natCast, Int.toNat_natCast, Int.toNat_natCast, Int.toNat_natCast]
  have hmid : ((l.take (o + i * s + c)).drop (o + i * s)).length = c := by rw [List.length_drop, List.length_take]; omega
  have hx := mk_len (r * c) (fun k => if k / c < i then vf l o s c k else 0)
  refine mk_eq ?_ (fun k hk => ?_)
  · rw [List.length_append, List.length_append, List.length_take, hmid, List.length_drop, hx]; omega
  · rw [List.getD_eq_getElem?_getD, List.getElem?_append, List.length_append, List.length_take, hmid, hx, Nat.min_eq_left (by omega)]
    by_cases a : k < i * c
    · rw [if_pos (by omega), List.getElem?_append, List.length_take, hx, Nat.min_eq_left (by omega), if_pos a, List.getElem?_take, if_pos a, mk_at hk]
      have h1 : k / c < i := Nat.div_lt_of_lt_mul (by rw [Nat.mul_comm]; exact a)
      rw [if_pos h1, if_pos (by omega)]; rfl
    · by_cases b : k < i * c + c
      · obtain ⟨j, rfl⟩ : ∃ j, k = i * c + j := ⟨k - i * c, by omega⟩
        rw [if_pos b, List.getElem?_append, List.length_take, hx, Nat.min_eq_left (by omega), if_neg a, show i * c + j - i * c = j by omega, List.getElem?_drop, List.getElem?_take, if_pos (by omega), place_div (by omega), if_pos (by omega)]
        unfold vf
        rw [place_div (by omega), place_mod (by omega), List.getD_eq_getElem?_getD]
      · have h1 : i + 1 ≤ k / c := (Nat.le_div_iff_mul_le (by omega)).2 (by rw [Nat.add_mul]; omega)
        rw [if_neg b, List.getElem?_drop, show i * c + c + (k - (i * c + c)) = k by omega, mk_at hk, if_neg (by omega), if_neg (by omega)]; rfl
theorem copy_l {l : List Int} {r c s o : Nat} (hr : r ≤ 64) (hc : 1 ≤ c) (hc' : c ≤ 64) (hs : s ≤ 1048576) (ho : o ≤ 1048576) (hin : ∀ i, i < r → o + i * s + c ≤ l.length) (d : Nat) : ∀ i : Nat, i + d = r →
    Ev (fun k => view_Copy.l0 k l 0 r i r c s o r c (mk (r * c) (fun k => if k / c < i then vf l o s c k else 0))) ((r : Int), (c : Int), mk (r * c) (vf l o s c), 0) := by
  have hb : r * c ≤ 64 * 64 := Nat.mul_le_mul hr hc'
  induction d with
  | zero =>
    intro i hi
    obtain rfl : i = r := by omega
    refine Ev.no (fun k => ?_)
    simp only [view_Copy.l0]
    rw [if_neg (by omega), mk_congr (f := fun k => if k / c < i then vf l o s c k else 0) (g := vf l o s c) (fun k hk => if_pos (div_lt_of hk))]
  | succ d ih =>
    intro i hi
    have h1 := hin i (by omega)
    have h2 : i * s ≤ 64 * 1048576 := Nat.mul_le_mul (by omega) hs
    have h3 : (i + 1) * c ≤ r * c := Nat.mul_le_mul_right _ (by omega)
    rw [Nat.add_mul, Nat.one_mul] at h3
    refine Ev.step (fun k => ?_) (ih (i + 1) (by omega))
    simp only [view_Copy.l0]
    rw [if_pos (by omega), wmul i c (by omega), wmul i s (by omega), wadd o (i * s) (by omega), if_pos ⟨by omega, by rw [mk_len]; omega, by omega, by omega, by omega⟩, row_step hc (by omega) h1, wsucc i (by omega)]
theorem new_no {m n : Int} (h : ¬ (1 ≤ m ∧ m ≤ 64 ∧ 1 ≤ n ∧ n ≤ 64)) : shape_New.f m n = some (0, 0, [], 11) := by
  unfold shape_New.f
  rw [side_eq, Option.bind_some]
  by_cases h1 : 1 ≤ m ∧ m ≤ 64
  · rw [decide_eq_true h1, if_pos rfl, side_eq, Option.bind_some, decide_eq_false (fun h2 => h ⟨h1.1, h1.2, h2.1, h2.2⟩)]; rfl
  · rw [decide_eq_false h1]; rfl
theorem copy_no (l : List Int) (m n s o : Int) (h : ¬ (okView m n s o l.length ∧ 1 ≤ m ∧ 1 ≤ n)) : Ev (fun k => view_Copy.f k l m n s o) (0, 0, [], 11) := by
  unfold view_Copy.f
  rw [vcheck_eq _ _ _ _ _ (Int.natCast_nonneg _)]
  by_cases g : okView m n s o l.length
  · rw [if_pos g, new_no (fun q => h ⟨g, q.1, q.2.2.1⟩)]
    simp only [Option.bind_some, if_true]
    refine Ev.no (fun k => ?_)
    simp only [view_Copy.l0]; rw [if_neg (by decide)]
  · rw [if_neg g]
    simp only [Option.bind_some, if_neg (show ¬ (11 : Int) = 0 by decide)]
    exact Ev.now _
theorem in_view {l : List Int} {r c s o : Nat} (h : okView r c s o l.length) (_hr : 1 ≤ r) (hc : 1 ≤ c) : ∀ i, i < r → o + i * s + c ≤ l.length := by
  intro i hi
  obtain ⟨p1, p2, p3⟩ := place_view (i := (i : Int)) (j := ((c - 1 : Nat) : Int)) h (by omega) (by omega) (by omega) (by omega)
  rw [← Int.natCast_mul] at p3
  omega
theorem copy_ok {l : List Int} {r c s o : Nat} (h : okView r c s o l.length) (hr : 1 ≤ r) (hc : 1 ≤ c) : Ev (fun k => view_Copy.f k l r c s o) ((r : Int), (c : Int), mk (r * c) (vf l o s c), 0) := by
  obtain ⟨h1, h2, h3, h4, h5, h6, h7, h8, _⟩ := id h
  unfold view_Copy.f
  rw [vcheck_eq _ _ _ _ _ (Int.natCast_nonneg _), if_pos h, new_ok (by omega) h2 (by omega) h4]
  simp only [Option.bind_some, if_true]
  have L := copy_l (l := l) (r := r) (c := c) (s := s) (o := o) (by omega) hc (by omega) (by omega) (by omega) (in_view h hr hc) r 0 (by omega)
  rw [show ((r : Int) * (c : Int)).toNat = r * c by rw [← Int.natCast_mul, Int.toNat_natCast], mk_const]
  rw [mk_congr (f := fun k => if k / c < 0 then vf l o s c k else 0) (g := fun _ => 0) (fun k _ => if_neg (Nat.not_lt_zero _))] at L
  exact L
theorem vt_alive : vernierlaw15_alive.f = some true := by decide +kernel
theorem vt_in {l : List Int} {r c s o : Nat} (h : okView r c s o l.length) {i : Nat} (hi : i < r) (M : List Int)
    (next : Ev (fun k => vernierlaw15_ViewTells.l0 k l 0 (mk ((i + 1) * c) (vf l o s c)) ((i + 1 : Nat) : Int) r c s o r c M) true) (d : Nat) : ∀ j : Nat, j + d = c →
    Ev (fun k => vernierlaw15_ViewTells.l1 k l 0 (mk (i * c + j) (vf l o s c)) i j r c s o r c M) true := by
  obtain ⟨h1, h2, h3, h4, h5, h6, h7, h8, _⟩ := id h
  induction d with
  | zero =>
    intro j hj
    obtain rfl : j = c := by omega
    refine Ev.step (fun k => ?_) next
    simp only [vernierlaw15_ViewTells.l1]
    rw [if_neg (by omega), wsucc i (by omega), Nat.add_mul, Nat.one_mul]
  | succ d ih =>
    intro j hj
    obtain ⟨p1, p2, p3⟩ := place_view (i := (i : Int)) (j := (j : Int)) h (by omega) (by omega) (by omega) (by omega)
    have hic : i * c ≤ 64 * 64 := Nat.mul_le_mul (by omega) (by omega)
    refine Ev.step (fun k => ?_) (ih (j + 1) (by omega))
    simp only [vernierlaw15_ViewTells.l1]
    rw [if_pos (by omega), p1, if_pos p2, if_pos p3, if_pos (by rw [mk_len]; omega), wsucc j (by omega)]
    have e : rd l ((o : Int) + (i : Int) * (s : Int) + (j : Int)) = vf l o s c (i * c + j) := by
      unfold vf
      rw [place_div (by omega), place_mod (by omega), ← rd_nat]
      congr 1
    rw [e, mkSnoc', Nat.add_assoc]
theorem vt_out {l : List Int} {r c s o : Nat} (h : okView r c s o l.length) (d : Nat) : ∀ i : Nat, i + d = r →
    Ev (fun k => vernierlaw15_ViewTells.l0 k l 0 (mk (i * c) (vf l o s c)) i r c s o r c (mk (r * c) (vf l o s c))) true := by
  obtain ⟨h1, h2, h3, h4, h5, h6, h7, h8, _⟩ := id h
  have hb : r * c ≤ 64 * 64 := Nat.mul_le_mul (by omega) (by omega)
  induction d with
  | zero =>
    intro i hi
    obtain rfl : i = r := by omega
    have S := same_ev (mk (i * c) (vf l o s c)) (mk (i * c) (vf l o s c)) (by rw [mk_len]; omega)
    rw [decide_eq_true rfl] at S
    refine Ev.step (f := fun k => (vernierref01_Same.f k (mk (i * c) (vf l o s c)) (mk (i * c) (vf l o s c))).bind fun t148 => some t148) (fun k => ?_) (Ev.bind S (Ev.now _))
    simp only [vernierlaw15_ViewTells.l0]
    rw [if_neg (by omega), if_pos trivial, if_pos trivial, if_pos trivial]
  | succ d ih =>
    intro i hi
    refine Ev.step (f := fun k => vernierlaw15_ViewTells.l1 k l 0 (mk (i * c + 0) (vf l o s c)) i ((0 : Nat) : Int) r c s o r c (mk (r * c) (vf l o s c))) (fun k => ?_) (vt_in h (by omega) _ (ih (i + 1) (by omega)) c 0 (by omega))
    simp only [vernierlaw15_ViewTells.l0]
    rw [if_pos (by omega)]; rfl
theorem vt_j3 (l : List Int) (m n s o : Int) : Ev (fun k => vernierlaw15_ViewTells.j3 k l 11 true m n s o 0 0 []) true := by
  refine Ev.no (fun k => ?_)
  simp only [vernierlaw15_ViewTells.j3]
  rw [if_pos trivial, if_pos trivial]; rfl
theorem vt_j1 (l : List Int) (m n s o i j want : Int) (hw : want = if okView m n s o l.length ∧ 0 ≤ i ∧ i < m ∧ 0 ≤ j ∧ j < n then rd l (o + i * s + j) else 0) :
    Ev (fun k => vernierlaw15_ViewTells.j1 k l i j (decide (okView m n s o l.length)) want m n s o) true := by
  have main : ∀ C : Int × Int × List Int × Int, Ev (fun k => view_Copy.f k l m n s o) C → Ev (fun k => vernierlaw15_ViewTells.j2 k l (decide (okView m n s o l.length)) C.2.2.2 false m n s o C.1 C.2.1 C.2.2.1) true → Ev (fun k => vernierlaw15_ViewTells.j1 k l i j (decide (okView m n s o l.length)) want m n s o) true := by
    intro C h1 h2
    refine Ev.step (f := fun k => (view_Copy.f k l m n s o).bind fun C => vernierlaw15_ViewTells.j2 k l (decide (okView m n s o l.length)) C.2.2.2 false m n s o C.1 C.2.1 C.2.2.1) (fun k => ?_) (Ev.bind h1 h2)
    simp only [vernierlaw15_ViewTells.j1]
    congr 1
    funext C
    rw [vcheck_eq _ _ _ _ _ (Int.natCast_nonneg _), Option.bind_some, get_eq, ← hw, Option.bind_some]
    by_cases g : okView m n s o l.length
    · rw [if_pos g, decide_eq_true g, if_neg (by decide), show (want != want) = false by simp]
    · rw [if_neg g, decide_eq_false g, if_neg (by decide), show (want != want) = false by simp]
  by_cases g : okView m n s o l.length ∧ 1 ≤ m ∧ 1 ≤ n
  · obtain ⟨g1, g2, g3⟩ := g
    obtain ⟨h1, h2, h3, h4, h5, h6, h7, h8, _⟩ := id g1
    obtain ⟨r, rfl⟩ := Int.eq_ofNat_of_zero_le h1
    obtain ⟨c, rfl⟩ := Int.eq_ofNat_of_zero_le h3
    obtain ⟨S, rfl⟩ := Int.eq_ofNat_of_zero_le (show 0 ≤ s by omega)
    obtain ⟨O, rfl⟩ := Int.eq_ofNat_of_zero_le h7
    refine main _ (copy_ok g1 (by omega) (by omega)) ?_
    refine Ev.step (f := fun k => vernierlaw15_ViewTells.j3 k l 0 false r c S O r c (mk (r * c) (vf l O S c))) (fun k => ?_) (Ev.step (fun k => ?_) (vt_out g1 r 0 (by omega)))
    · simp only [vernierlaw15_ViewTells.j2]
      rw [if_neg (by decide), decide_eq_true g1, if_pos rfl, if_neg (by omega), show (((c : Int)) == 0) = false from beq_eq_false_iff_ne.mpr (by omega)]
    · simp only [vernierlaw15_ViewTells.j3]
      rw [if_neg (by decide), Nat.zero_mul]; rfl
  · refine main _ (copy_no l m n s o g) (Ev.step (fun k => ?_) (vt_j3 l m n s o))
    simp only [vernierlaw15_ViewTells.j2]
    rw [if_neg (by decide)]
    by_cases q : okView m n s o l.length
    · rw [decide_eq_true q, if_pos rfl]
      have q1 := q.1
      have q3 := q.2.2.1
      by_cases z : m = 0
      · rw [if_pos z]
      · rw [if_neg z, show (n == 0) = true from beq_iff_eq.mpr (by
          by_cases z2 : n = 0
          · exact z2
          · exact absurd ⟨q, by omega, by omega⟩ g)]
    · rw [decide_eq_false q, if_neg (by decide)]
theorem vt_j0 (l : List Int) (m n s o i j : Int) (x : Bool) (hx : x = decide (okView m n s o l.length ∧ 0 ≤ i ∧ i < m ∧ 0 ≤ j ∧ j < n)) :
    Ev (fun k => vernierlaw15_ViewTells.j0 k l i j (decide (okView m n s o l.length)) 0 x m n s o) true := by
  by_cases g : okView m n s o l.length ∧ 0 ≤ i ∧ i < m ∧ 0 ≤ j ∧ j < n
  · obtain ⟨p1, p2, p3⟩ := place_view g.1 g.2.1 g.2.2.1 g.2.2.2.1 g.2.2.2.2
    refine Ev.step (fun k => ?_) (vt_j1 l m n s o i j (rd l (o + i * s + j)) (by rw [if_pos g]))
    simp only [vernierlaw15_ViewTells.j0]
    rw [hx, decide_eq_true g, if_pos rfl, p1, if_pos p2, if_pos p3]
  · refine Ev.step (fun k => ?_) (vt_j1 l m n s o i j 0 (by rw [if_neg g]))
    simp only [vernierlaw15_ViewTells.j0]
    rw [hx, decide_eq_false g, if_neg (by decide)]
theorem vt_ev (l : List Int) (m n s o i j : Int) : Ev (fun k => vernierlaw15_ViewTells.f k l m n s o i j) true := by
  unfold vernierlaw15_ViewTells.f
  rw [vt_alive, vmay_eq]
  simp only [Option.bind_some, if_true]
  have J := vt_j0 l m n s o i j
  by_cases q : okView m n s o l.length
  · rw [decide_eq_true q] at J ⊢
    simp only [if_true]
    by_cases a : i ≥ 0
    · simp only [if_pos a]
      by_cases b : i < m
      · simp only [if_pos b]
        by_cases c : j ≥ 0
        · simp only [if_pos c]
          refine J _ ?_
          rw [decide_eq_decide]; exact ⟨fun h => ⟨q, a, b, c, h⟩, fun h => h.2.2.2.2⟩
        · simp only [if_neg c]; exact J _ (by rw [decide_eq_false (fun h => c h.2.2.2.1)])
      · simp only [if_neg b]; exact J _ (by rw [decide_eq_false (fun h => b h.2.2.1)])
    · simp only [if_neg a]; exact J _ (by rw [decide_eq_false (fun h => a h.2.1)])
  · rw [decide_eq_false q] at J ⊢
    simp only [if_neg (show ¬ (false = true) by decide)]
    exact J _ (by rw [decide_eq_false (fun h => q h.1)])
theorem ViewTells_walk (W : World) (A : Option Addr) (c : Nat) (l : List Int) (hr : Kd.C (Kd.int .u64) W A l.length l) (hc : l.length ≤ c) (_hm : l.length ≤ maxLen) (_hw : ∀ x ∈ l, (Lit.int .u64 x).wf = true) (_hy : l.length * 8 ≤ 140737488351232) (m n s o : Int) (_wm : (Lit.int .i64 m).wf = true) (_wn : (Lit.int .i64 n).wf = true) (_ws : (Lit.int .i64 s).wf = true) (_wo : (Lit.int .i64 o).wf = true) (i : Int) (_wi : (Lit.int .i64 i).wf = true) (j : Int) (_wj : (Lit.int .i64 j).wf = true) :
    Calls Try.prog 7 #[.slice A l.length c, .agg #[.int .i64 m, .int .i64 n, .int .i64 s, .int .i64 o], .int .i64 i, .int .i64 j] W fun e w' => e = .returned (.bool true) ∧ Below W.heap.size W w' := by
  obtain ⟨k, e⟩ := (vt_ev l m n s o i j).rounds
  exact (vernierlaw15_ViewTells.calls k A c l m n s o i j true W hr hc e).mono fun e w' h => h
end Go.Proofs.Ytdkmmelbadcpjaa.Pure
