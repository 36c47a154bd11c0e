/- ViewParts: a part's words are those of the whole, from its place on; what reaches beyond is refused. For every list of words, every view and part. -/
import Derived.Test.YtdkmmelbadcpjaaPViewPartsx3
namespace Go.Proofs.Ytdkmmelbadcpjaa.Pure
open Go.RowKit Go.Proofs.Ytdkmmelbadcpjaa.PViewParts Go.Proofs.YtdkmmelbadcpjaaW.PrintWords Go.Proofs.YtdkmmelbadcpjaaW.PrintLast Go.Proofs.YtdkmmelbadcpjaaW.PrintMore
-- Whole numbers that fit; places in a matrix; lists made of a function.
theorem w64 {x : Int} (h0 : -9223372036854775808 ≤ x) (h1 : x < 9223372036854775808) : wrap64 x = x := by unfold wrap64; omega
theorem wN (n : Nat) (h : n < 9223372036854775808) : wrap64 (n : Int) = (n : Int) := w64 (by omega) (by omega)
theorem wmul (a b : Nat) (h : a * b < 9223372036854775808) : wrap64 ((a : Int) * (b : Int)) = ((a * b : Nat) : Int) := by rw [← Int.natCast_mul]; exact wN _ h
theorem wadd (a b : Nat) (h : a + b < 9223372036854775808) : wrap64 ((a : Int) + (b : Int)) = ((a + b : Nat) : Int) := by rw [← Int.natCast_add]; exact wN _ h
theorem wsucc (a : Nat) (h : a + 1 < 9223372036854775808) : wrap64 ((a : Int) + 1) = ((a + 1 : Nat) : Int) := wadd a 1 h
theorem place_lt {i j r c : Nat} (hi : i < r) (hj : j < c) : i * c + j < r * c := by
  have : (i + 1) * c ≤ r * c := Nat.mul_le_mul_right c hi
  rw [Nat.add_mul, Nat.one_mul] at this; omega
theorem place_div {i j c : Nat} (hj : j < c) : (i * c + j) / c = i := by
  rw [Nat.mul_comm, Nat.mul_add_div (by omega), Nat.div_eq_of_lt hj, Nat.add_zero]
theorem place_mod {i j c : Nat} (hj : j < c) : (i * c + j) % c = j := by
  rw [Nat.mul_comm, Nat.mul_add_mod, Nat.mod_eq_of_lt hj]
theorem place_of (k c : Nat) : k / c * c + k % c = k := by rw [Nat.mul_comm]; exact Nat.div_add_mod k c
theorem div_lt_of {k r c : Nat} (h : k < r * c) : k / c < r := Nat.div_lt_of_lt_mul (by rw [Nat.mul_comm]; exact h)
theorem mod_lt_of {k r c : Nat} (h : k < r * c) : k % c < c := Nat.mod_lt _ (by rcases Nat.eq_zero_or_pos c with rfl | h' <;> omega)
def mk (n : Nat) (f : Nat → Int) : List Int := (List.range n).map f
theorem mk_len (n : Nat) (f : Nat → Int) : (mk n f).length = n := by simp [mk]
theorem mk_get (n : Nat) (f : Nat → Int) (k : Nat) (h : k < n) : (mk n f).getD k 0 = f k := by
  simp [mk, List.getD_eq_getElem?_getD, h]
theorem rd_mk (n : Nat) (f : Nat → Int) (k : Nat) (h : k < n) : rd (mk n f) (k : Int) = f k := mk_get n f k h
theorem rd_nat (l : List Int) (k : Nat) : rd l (k : Int) = l.getD k 0 := rfl
theorem mk_congr {n : Nat} {f g : Nat → Int} (h : ∀ k, k < n → f k = g k) : mk n f = mk n g := List.map_congr_left (fun k hk => h k (List.mem_range.1 hk))
theorem mk_set (n : Nat) (f : Nat → Int) (p : Nat) (v : Int) : (mk n f).set p v = mk n (fun k => if k = p then v else f k) := by
  apply List.ext_getElem
  · simp [mk]
  · intro i h1 h2
    simp only [mk, List.length_set, List.length_map, List.length_range] at h1
    rw [List.getElem_set]
    simp only [mk, List.getElem_map, List.getElem_range]
    by_cases e : p = i
    · subst e; simp
    · rw [if_neg e, if_neg (fun h => e h.symm)]
theorem mk_const (n : Nat) (v : Int) : List.replicate n v = mk n (fun _ => v) := by
  apply List.ext_getElem
  · simp [mk]
  · intro i h1 h2; simp [mk]
theorem mk_self (l : List Int) : mk l.length (fun k => l.getD k 0) = l := by
  apply List.ext_getElem
  · simp [mk]
  · intro i h1 h2
    simp only [mk, List.getElem_map, List.getElem_range]
    rw [List.getD_eq_getElem?_getD, List.getElem?_eq_getElem h2]; rfl
theorem mk_eq {n : Nat} {f : Nat → Int} {l : List Int} (hl : l.length = n) (h : ∀ k, k < n → l.getD k 0 = f k) : l = mk n f := by
  subst hl
  exact (mk_self l).symm.trans (mk_congr h)
theorem Ev.no {α : Type} {g : Nat → Option α} {r : α} (h : ∀ k, g (k + 1) = some r) : Ev g r := Ev.step (f := fun _ => some r) h (Ev.now r)
-- What the printed functions of the package view come to.
def okView (m n s o z : Int) : Prop := 0 ≤ m ∧ m ≤ 64 ∧ 0 ≤ n ∧ n ≤ 64 ∧ n ≤ s ∧ s ≤ 1048576 ∧ 0 ≤ o ∧ o ≤ 1048576 ∧ (m = 0 ∨ n = 0 ∨ o + (m - 1) * s + n - 1 < z)
instance (m n s o z : Int) : Decidable (okView m n s o z) := by unfold okView; infer_instance
theorem vside_eq (n : Int) : view_side.f n = some (decide (0 ≤ n ∧ n ≤ 64)) := by
  unfold view_side.f
  by_cases h : n ≥ 0
  · rw [if_pos h]; congr 1; rw [decide_eq_decide]; omega
  · rw [if_neg h, decide_eq_false (by omega)]
theorem mul_bd {a s : Int} (h0 : 0 ≤ a) (h1 : a ≤ 64) (h2 : 0 ≤ s) (h3 : s ≤ 1048576) : 0 ≤ a * s ∧ a * s ≤ 67108864 :=
  ⟨Int.mul_nonneg h0 h2, by have := Int.mul_le_mul h1 h3 h2 (by omega); omega⟩
theorem last_wrap {m n s o : Int} (h1 : 1 ≤ m) (h2 : m ≤ 64) (h3 : 0 ≤ n) (h4 : n ≤ 64) (h5 : 0 ≤ s) (h6 : s ≤ 1048576) (h7 : 0 ≤ o) (h8 : o ≤ 1048576) :
    wrap64 ((wrap64 ((wrap64 (o + (wrap64 ((wrap64 (m - 1)) * s)))) + n)) - 1) = o + (m - 1) * s + n - 1 := by
  have h := mul_bd (a := m - 1) (by omega) (by omega) h5 h6
  rw [w64 (x := m - 1) (by omega) (by omega)]
  generalize (m - 1) * s = q at *
  rw [w64 (x := q) (by omega) (by omega), w64 (x := o + q) (by omega) (by omega), w64 (x := o + q + n) (by omega) (by omega), w64 (by omega) (by omega)]
theorem vlast_eq {m n s o : Int} (h1 : 0 ≤ m) (h2 : m ≤ 64) (h3 : 0 ≤ n) (h4 : n ≤ 64) (h5 : 0 ≤ s) (h6 : s ≤ 1048576) (h7 : 0 ≤ o) (h8 : o ≤ 1048576) : view_last.f m n s o = some (if m = 0 ∨ n = 0 then -1 else o + (m - 1) * s + n - 1) := by
  unfold view_last.f
  by_cases a : m = 0
  · rw [if_pos a, if_pos (.inl a)]
  · by_cases b : n = 0
    · rw [if_neg a, if_pos b, if_pos (.inr b)]
    · rw [if_neg a, if_neg b, if_neg (by omega), last_wrap (by omega) h2 h3 h4 h5 h6 h7 h8]
theorem vcheck_eq (m n s o z : Int) (hz : 0 ≤ z) : view_Check.f m n s o z = some (if okView m n s o z then 0 else 11) := by
  unfold view_Check.f
  rw [vside_eq, Option.bind_some]
  by_cases h1 : 0 ≤ m ∧ m ≤ 64
  · rw [decide_eq_true h1, if_pos rfl, vside_eq, Option.bind_some]
    by_cases h2 : 0 ≤ n ∧ n ≤ 64
    · rw [decide_eq_true h2, if_pos rfl]
      by_cases h3 : s < n
      · rw [if_pos h3, if_neg (fun h : okView m n s o z => by have := h.2.2.2.2.1; omega)]
      rw [if_neg h3]
      by_cases h4 : s > 1048576
      · rw [if_pos h4, if_neg (fun h : okView m n s o z => by have := h.2.2.2.2.2.1; omega)]
      rw [if_neg h4]
      by_cases h5 : o < 0
      · rw [if_pos h5, if_neg (fun h : okView m n s o z => by have := h.2.2.2.2.2.2.1; omega)]
      rw [if_neg h5]
      by_cases h6 : o > 1048576
      · rw [if_pos h6, if_neg (fun h : okView m n s o z => by have := h.2.2.2.2.2.2.2.1; omega)]
      rw [if_neg h6, vlast_eq h1.1 h1.2 h2.1 h2.2 (by omega) (by omega) (by omega) (by omega), Option.bind_some]
      by_cases h7 : m = 0 ∨ n = 0
      · rw [if_pos h7, if_neg (by omega), if_pos (show okView m n s o z from ⟨h1.1, h1.2, h2.1, h2.2, by omega, by omega, by omega, by omega, by omega⟩)]
      · rw [if_neg h7]
        by_cases h8 : o + (m - 1) * s + n - 1 ≥ z
        · rw [if_pos h8, if_neg (fun h : okView m n s o z => by have := h.2.2.2.2.2.2.2.2; omega)]
        · rw [if_neg h8, if_pos (show okView m n s o z from ⟨h1.1, h1.2, h2.1, h2.2, by omega, by omega, by omega, by omega, by omega⟩)]
    · rw [decide_eq_false h2, if_neg (by decide), if_neg (fun h : okView m n s o z => h2 ⟨h.2.2.1, h.2.2.2.1⟩)]
  · rw [decide_eq_false h1, if_neg (by decide), if_neg (fun h : okView m n s o z => h1 ⟨h.1, h.2.1⟩)]
theorem vmay_eq (m n s o z : Int) : vernierlaw15_may.f m n s o z = some (decide (okView m n s o z)) := by
  unfold vernierlaw15_may.f
  by_cases a : m < 0
  · rw [if_pos a, decide_eq_false (fun h : okView m n s o z => by have := h.1; omega)]
  rw [if_neg a]
  by_cases b : m > 64
  · rw [if_pos b, decide_eq_false (fun h : okView m n s o z => by have := h.2.1; omega)]
  rw [if_neg b]
  by_cases c : n < 0
  · rw [if_pos c, decide_eq_false (fun h : okView m n s o z => by have := h.2.2.1; omega)]
  rw [if_neg c]
  by_cases d : n > 64
  · rw [if_pos d, decide_eq_false (fun h : okView m n s o z => by have := h.2.2.2.1; omega)]
  rw [if_neg d]
  by_cases h3 : s < n
  · rw [if_pos h3, decide_eq_false (fun h : okView m n s o z => by have := h.2.2.2.2.1; omega)]
  rw [if_neg h3]
  by_cases h4 : s > 1048576
  · rw [if_pos h4, decide_eq_false (fun h : okView m n s o z => by have := h.2.2.2.2.2.1; omega)]
  rw [if_neg h4]
  by_cases h5 : o < 0
  · rw [if_pos h5, decide_eq_false (fun h : okView m n s o z => by have := h.2.2.2.2.2.2.1; omega)]
  rw [if_neg h5]
  by_cases h6 : o > 1048576
  · rw [if_pos h6, decide_eq_false (fun h : okView m n s o z => by have := h.2.2.2.2.2.2.2.1; omega)]
  rw [if_neg h6]
  by_cases h7 : m = 0
  · rw [if_pos h7, decide_eq_true (show okView m n s o z from ⟨by omega, by omega, by omega, by omega, by omega, by omega, by omega, by omega, .inl h7⟩)]
  rw [if_neg h7]
  by_cases h8 : n = 0
  · rw [if_pos h8, decide_eq_true (show okView m n s o z from ⟨by omega, by omega, by omega, by omega, by omega, by omega, by omega, by omega, .inr (.inl h8)⟩)]
  rw [if_neg h8, last_wrap (by omega) (by omega) (by omega) (by omega) (by omega) (by omega) (by omega) (by omega)]
  congr 1
  rw [decide_eq_decide]
  exact ⟨fun h => ⟨by omega, by omega, by omega, by omega, by omega, by omega, by omega, by omega, .inr (.inr h)⟩, fun h => by have := h.2.2.2.2.2.2.2.2; omega⟩
theorem place_view {m n s o z i j : Int} (h : okView m n s o z) (hi : 0 ≤ i) (hi' : i < m) (hj : 0 ≤ j) (hj' : j < n) :
    wrap64 ((wrap64 (o + (wrap64 (i * s)))) + j) = o + i * s + j ∧ 0 ≤ o + i * s + j ∧ o + i * s + j < z := by
  obtain ⟨h1, h2, h3, h4, h5, h6, h7, h8, h9⟩ := h
  have b := mul_bd (a := i) (s := s) hi (by omega) (by omega) h6
  have c : i * s ≤ (m - 1) * s := Int.mul_le_mul_of_nonneg_right (by omega) (by omega)
  generalize i * s = p at *
  generalize (m - 1) * s = q at *
  rw [w64 (x := p) (by omega) (by omega), w64 (x := o + p) (by omega) (by omega), w64 (by omega) (by omega)]
  omega
theorem get_eq (l : List Int) (m n s o i j : Int) : view_Get.f l m n s o i j = some (if okView m n s o l.length ∧ 0 ≤ i ∧ i < m ∧ 0 ≤ j ∧ j < n then rd l (o + i * s + j) else 0) := by
  unfold view_Get.f
  rw [vcheck_eq _ _ _ _ _ (Int.natCast_nonneg _), Option.bind_some]
  by_cases h : okView m n s o l.length
  · rw [if_pos h, if_pos rfl]
    by_cases a : i < 0
    · rw [if_pos a, if_neg (by omega)]
    rw [if_neg a]
    by_cases b : i ≥ m
    · rw [if_pos b, if_neg (by omega)]
    rw [if_neg b]
    by_cases c : j < 0
    · rw [if_pos c, if_neg (by omega)]
    rw [if_neg c]
    by_cases d : j ≥ n
    · rw [if_pos d, if_neg (by omega)]
    rw [if_neg d]
    obtain ⟨p1, p2, p3⟩ := place_view (i := i) (j := j) h (by omega) (by omega) (by omega) (by omega)
    rw [p1, if_pos p2, if_pos p3, if_pos ⟨h, by omega, by omega, by omega, by omega⟩]
  · rw [if_neg h, if_neg (by decide), if_neg (fun k => h k.1)]
def within (i k m : Int) : Prop := 0 ≤ i ∧ 0 ≤ k ∧ i ≤ m ∧ k ≤ m - i
instance (i k m : Int) : Decidable (within i k m) := by unfold within; infer_instance
theorem within_eq (i k m : Int) (h0 : 0 ≤ m) (h1 : m ≤ 64) : view_within.f i k m = some (decide (within i k m)) := by
  unfold view_within.f
  by_cases a : i ≥ 0
  · rw [if_pos a]
    by_cases b : k ≥ 0
    · rw [if_pos b]
      by_cases c : i ≤ m
      · rw [if_pos c, w64 (by omega) (by omega)]; congr 1; rw [decide_eq_decide]; exact ⟨fun h => ⟨a, b, c, h⟩, fun h => h.2.2.2⟩
      · rw [if_neg c, decide_eq_false (fun h : within i k m => c h.2.2.1)]
    · rw [if_neg b, decide_eq_false (fun h : within i k m => b h.2.1)]
  · rw [if_neg a, decide_eq_false (fun h : within i k m => a h.1)]
theorem part_eq (m n s o i j r c : Int) : view_Part.f m n s o i j r c = some (if okView m n s o 1048576 then (if within i r m ∧ within j c n then (r, c, s, o + i * s + j, 0) else (0, 0, 0, 0, 4)) else (0, 0, 0, 0, 11)) := by
  unfold view_Part.f
  rw [vcheck_eq _ _ _ _ _ (by omega), Option.bind_some]
  by_cases h : okView m n s o 1048576
  · rw [if_pos h, if_pos rfl, if_pos h]
    obtain ⟨h1, h2, h3, h4, h5, h6, h7, h8, h9⟩ := h
    rw [within_eq _ _ _ h1 h2, Option.bind_some]
    by_cases a : within i r m
    · rw [decide_eq_true a, if_pos rfl, within_eq _ _ _ h3 h4, Option.bind_some]
      by_cases b : within j c n
      · rw [decide_eq_true b, if_pos rfl, if_pos ⟨a, b⟩]
        obtain ⟨a1, a2, a3, a4⟩ := a
        obtain ⟨b1, b2, b3, b4⟩ := b
        have q := mul_bd (a := i) (s := s) a1 (by omega) (by omega) h6
        generalize i * s = p at *
        rw [w64 (x := p) (by omega) (by omega), w64 (x := o + p) (by omega) (by omega), w64 (by omega) (by omega)]
      · rw [decide_eq_false b, if_neg (by decide), if_neg (fun k => b k.2)]
    · rw [decide_eq_false a, if_neg (by decide), if_neg (fun k => a k.1)]
  · rw [if_neg h, if_neg (by decide), if_neg h]
/-- A part's place, and the whole's. -/
theorem part_ok {m n s o z i j r c : Int} (h0 : okView m n s o 1048576) (h : okView m n s o z) (a : within i r m) (b : within j c n) (hr : 1 ≤ r) (hc : 1 ≤ c) : okView r c s (o + i * s + j) z := by
  obtain ⟨h1, h2, h3, h4, h5, h6, h7, h8, h9⟩ := h
  have g9 := h0.2.2.2.2.2.2.2.2
  obtain ⟨a1, a2, a3, a4⟩ := a
  obtain ⟨b1, b2, b3, b4⟩ := b
  have q := mul_bd (a := i) (s := s) a1 (by omega) (by omega) h6
  have e : (i + (r - 1)) * s ≤ (m - 1) * s := Int.mul_le_mul_of_nonneg_right (by omega) (by omega)
  rw [Int.add_mul] at e
  have f := mul_bd (a := r - 1) (s := s) (by omega) (by omega) (by omega) h6
  generalize i * s = p at *
  generalize (m - 1) * s = t at *
  refine ⟨by omega, by omega, by omega, by omega, by omega, h6, by omega, by omega, .inr (.inr ?_)⟩
  generalize (r - 1) * s = u at *
  omega
theorem part_get (l : List Int) {m n s o i j r c x y : Int} (h0 : okView m n s o 1048576) (h : okView m n s o l.length) (a : within i r m) (b : within j c n) (hx : 0 ≤ x) (hx' : x < r) (hy : 0 ≤ y) (hy' : y < c) :
    view_Get.f l r c s (o + i * s + j) x y = view_Get.f l m n s o (i + x) (j + y) := by
  rw [get_eq, get_eq, if_pos ⟨part_ok h0 h a b (by omega) (by omega), hx, hx', hy, hy'⟩]
  obtain ⟨a1, a2, a3, a4⟩ := a
  obtain ⟨b1, b2, b3, b4⟩ := b
  rw [if_pos ⟨h, by omega, by omega, by omega, by omega⟩, Int.add_mul]
  congr 2
  omega
theorem law_inner (l : List Int) {m n s o i j : Int} {r c : Nat} (h0 : okView m n s o 1048576) (h : okView m n s o l.length) (a : within i r m) (b : within j c n) (x : Nat) (hx : x < r)
    (next : Ev (fun k => vernierlaw15_ViewParts.l0 k l i j r c ((x + 1 : Nat) : Int) m n s o r c s (o + i * s + j)) true) (d : Nat) :
    ∀ y : Nat, y + d = c → Ev (fun k => vernierlaw15_ViewParts.l1 k l i j r c x y m n s o r c s (o + i * s + j)) true := by
  have h2 := h.2.1
  have h4 := h.2.2.2.1
  have a1 := a.1
  have a3 := a.2.2.1
  have a4 := a.2.2.2
  have b1 := b.1
  have b3 := b.2.2.1
  have b4 := b.2.2.2
  induction d with
  | zero =>
    intro y hy
    refine Ev.step (f := fun k => vernierlaw15_ViewParts.l0 k l i j r c ((x + 1 : Nat) : Int) m n s o r c s (o + i * s + j)) (fun k => ?_) next
    simp only [vernierlaw15_ViewParts.l1]; rw [if_neg (by omega), wsucc _ (by omega)]
  | succ d ih =>
    intro y hy
    refine Ev.step (f := fun k => vernierlaw15_ViewParts.l1 k l i j r c x ((y + 1 : Nat) : Int) m n s o r c s (o + i * s + j)) (fun k => ?_) (ih (y + 1) (by omega))
    simp only [vernierlaw15_ViewParts.l1]
    rw [if_pos (by omega), w64 (x := i + (x : Int)) (by omega) (by omega), w64 (x := j + (y : Int)) (by omega) (by omega), part_get l h0 h a b (x := x) (y := y) (by omega) (by omega) (by omega) (by omega), get_eq]
    simp only [Option.bind_some, if_true]
    rw [wsucc _ (by omega)]
theorem law_outer (l : List Int) {m n s o i j : Int} {r c : Nat} (h0 : okView m n s o 1048576) (h : okView m n s o l.length) (a : within i r m) (b : within j c n) (d : Nat) :
    ∀ x : Nat, x + d = r → Ev (fun k => vernierlaw15_ViewParts.l0 k l i j r c x m n s o r c s (o + i * s + j)) true := by
  induction d with
  | zero =>
    intro x hx
    refine Ev.no (fun k => ?_)
    simp only [vernierlaw15_ViewParts.l0]; rw [if_neg (by omega)]
  | succ d ih =>
    intro x hx
    refine Ev.step (f := fun k => vernierlaw15_ViewParts.l1 k l i j r c x ((0 : Nat) : Int) m n s o r c s (o + i * s + j)) (fun k => ?_) (law_inner l h0 h a b x (by omega) (ih (x + 1) (by omega)) c 0 (by omega))
    simp only [vernierlaw15_ViewParts.l0]; rw [if_pos (by omega)]; rfl
theorem vp_head (l : List Int) {m n s o : Int} (h0 : okView m n s o 1048576) (i j r c e p q u v : Int) (k : Nat) :
    (if i < 0 then (vernierlaw15_ViewParts.j0 k l i j r c e true m n s o p q u v) else (if j < 0 then (vernierlaw15_ViewParts.j0 k l i j r c e true m n s o p q u v) else (if r < 0 then (vernierlaw15_ViewParts.j0 k l i j r c e true m n s o p q u v) else (if c < 0 then (vernierlaw15_ViewParts.j0 k l i j r c e true m n s o p q u v) else (if i > m then (vernierlaw15_ViewParts.j0 k l i j r c e true m n s o p q u v) else (if j > n then (vernierlaw15_ViewParts.j0 k l i j r c e true m n s o p q u v) else (if r > (wrap64 (m - i)) then (vernierlaw15_ViewParts.j0 k l i j r c e true m n s o p q u v) else (vernierlaw15_ViewParts.j0 k l i j r c e (decide (c > (wrap64 (n - j)))) m n s o p q u v)))))))) =
      vernierlaw15_ViewParts.j0 k l i j r c e (decide (¬ (within i r m ∧ within j c n))) m n s o p q u v := by
  have h1 := h0.1
  have h2 := h0.2.1
  have h3 := h0.2.2.1
  have h4 := h0.2.2.2.1
  have no : ¬ (within i r m ∧ within j c n) → decide (¬ (within i r m ∧ within j c n)) = true := fun h => decide_eq_true h
  by_cases c1 : i < 0
  · rw [if_pos c1, no (fun h => by have := h.1.1; omega)]
  rw [if_neg c1]
  by_cases c2 : j < 0
  · rw [if_pos c2, no (fun h => by have := h.2.1; omega)]
  rw [if_neg c2]
  by_cases c3 : r < 0
  · rw [if_pos c3, no (fun h => by have := h.1.2.1; omega)]
  rw [if_neg c3]
  by_cases c4 : c < 0
  · rw [if_pos c4, no (fun h => by have := h.2.2.1; omega)]
  rw [if_neg c4]
  by_cases c5 : i > m
  · rw [if_pos c5, no (fun h => by have := h.1.2.2.1; omega)]
  rw [if_neg c5]
  by_cases c6 : j > n
  · rw [if_pos c6, no (fun h => by have := h.2.2.2.1; omega)]
  rw [if_neg c6, w64 (x := m - i) (by omega) (by omega), w64 (x := n - j) (by omega) (by omega)]
  by_cases c7 : r > m - i
  · rw [if_pos c7, no (fun h => by have := h.1.2.2.2; omega)]
  rw [if_neg c7]
  congr 1
  rw [decide_eq_decide]
  exact ⟨fun h k => by have := k.2.2.2.2; omega, fun h => by
    by_cases g : c > n - j
    · exact g
    · exact absurd ⟨⟨by omega, by omega, by omega, by omega⟩, ⟨by omega, by omega, by omega, by omega⟩⟩ h⟩
theorem ViewParts_pure (l : List Int) (m n s o i j r c : Int) : Ev (fun k => vernierlaw15_ViewParts.f k l m n s o i j r c) true := by
  unfold vernierlaw15_ViewParts.f
  rw [show vernierlaw15_alive.f = some true by decide +kernel]
  simp only [Option.bind_some, if_true]
  rw [part_eq]
  simp only [Option.bind_some, vmay_eq]
  by_cases h : okView m n s o 1048576
  · simp only [decide_eq_true h, if_true, if_pos h]
    by_cases hw : within i r m ∧ within j c n
    · simp only [if_pos hw]
      refine Ev.congr (f := fun k => vernierlaw15_ViewParts.j0 k l i j r c 0 false m n s o r c s (o + i * s + j)) (fun k => ?_) ?_
      · rw [vp_head l h, decide_eq_false (fun k => k hw)]
      · refine Ev.step (f := fun k => vernierlaw15_ViewParts.j1 k l i j r c false m n s o r c s (o + i * s + j)) (fun k => ?_) ?_
        · simp only [vernierlaw15_ViewParts.j0, if_neg (show ¬ (false = true) by decide), if_true, bne_self_eq_false]
        · refine Ev.step (f := fun k => if decide (okView m n s o l.length) = true then (vernierlaw15_ViewParts.l0 k l i j r c 0 m n s o r c s (o + i * s + j)) else (some true)) (fun k => ?_) ?_
          · simp only [vernierlaw15_ViewParts.j1, if_neg (show ¬ (false = true) by decide), vmay_eq, Option.bind_some]
          · by_cases h2 : okView m n s o l.length
            · simp only [decide_eq_true h2, if_true]
              obtain ⟨r, rfl⟩ := Int.eq_ofNat_of_zero_le hw.1.2.1
              obtain ⟨c, rfl⟩ := Int.eq_ofNat_of_zero_le hw.2.2.1
              exact law_outer l h h2 hw.1 hw.2 r 0 (by omega)
            · simp only [decide_eq_false h2]; exact Ev.now _
    · simp only [if_neg hw]
      refine Ev.congr (f := fun k => vernierlaw15_ViewParts.j0 k l i j r c 4 true m n s o 0 0 0 0) (fun k => ?_) (Ev.no (fun k => ?_))
      · rw [vp_head l h, decide_eq_true hw]
      · simp only [vernierlaw15_ViewParts.j0, if_true]; rfl
  · simp only [decide_eq_false h, if_neg h]
    exact Ev.now _
theorem ViewParts_walk (W : World) (A : Option Addr) (q : Nat) (l : List Int) (hr : Kd.C (Kd.int .u64) W A l.length l) (hc : l.length ≤ q) (_hm : l.length ≤ maxLen) (_hw : ∀ x ∈ l, (Lit.int .u64 x).wf = true) (_hy : l.length * 8 ≤ 140737488351232) (m n s o : Int) (_wm : (Lit.int .i64 m).wf = true) (_wn : (Lit.int .i64 n).wf = true) (_ws : (Lit.int .i64 s).wf = true) (_wo : (Lit.int .i64 o).wf = true)
    (i : Int) (_wi : (Lit.int .i64 i).wf = true) (j : Int) (_wj : (Lit.int .i64 j).wf = true) (r : Int) (_wr : (Lit.int .i64 r).wf = true) (c : Int) (_wc : (Lit.int .i64 c).wf = true) :
    Calls Try.prog 5 #[.slice A l.length q, .agg #[.int .i64 m, .int .i64 n, .int .i64 s, .int .i64 o], .int .i64 i, .int .i64 j, .int .i64 r, .int .i64 c] W fun e w' => e = .returned (.bool true) ∧ Below W.heap.size W w' := by
  obtain ⟨k, h⟩ := (ViewParts_pure l m n s o i j r c).rounds
  exact (vernierlaw15_ViewParts.calls k A q l m n s o i j r c true W hr hc h).mono fun e w' h => h
end Go.Proofs.Ytdkmmelbadcpjaa.Pure
