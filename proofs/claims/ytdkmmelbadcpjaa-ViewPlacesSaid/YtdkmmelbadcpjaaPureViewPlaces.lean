/- ViewPlaces: a view's places, and whether two have one in common, are as the page says. For every two views. -/
import Derived.Test.YtdkmmelbadcpjaaPViewPlacesx1
import Derived.Test.YtdkmmelbadcpjaaPViewPlacesx2
import Derived.Test.YtdkmmelbadcpjaaPViewPlacesx3
namespace Go.Proofs.Ytdkmmelbadcpjaa.Pure
open Go.RowKit Go.Proofs.Ytdkmmelbadcpjaa.PViewPlaces Go.Proofs.YtdkmmelbadcpjaaW.PrintWords Go.Proofs.YtdkmmelbadcpjaaW.PrintLast Go.Proofs.YtdkmmelbadcpjaaW.PrintMore
-- Whole numbers that fit; places in a matrix; lists made of a function.
theorem w64 {x : Int} (h0 : -9223372036854775808 ≤ x) (h1 : x < 9223372036854775808) : wrap64 x = x := by unfold wrap64; omega
theorem wN (n : Nat) (h : n < 9223372036854775808) : wrap64 (n : Int) = (n : Int) := w64 (by omega) (by omega)
theorem wmul (a b : Nat) (h : a * b < 9223372036854775808) : wrap64 ((a : Int) * (b : Int)) = ((a * b : Nat) : Int) := by rw [← Int.natCast_mul]; exact wN _ h
theorem wadd (a b : Nat) (h : a + b < 9223372036854775808) : wrap64 ((a : Int) + (b : Int)) = ((a + b : Nat) : Int) := by rw [← Int.natCast_add]; exact wN _ h
theorem wsucc (a : Nat) (h : a + 1 < 9223372036854775808) : wrap64 ((a : Int) + 1) = ((a + 1 : Nat) : Int) := wadd a 1 h
theorem place_lt {i j r c : Nat} (hi : i < r) (hj : j < c) : i * c + j < r * c := by
  have : (i + 1) * c ≤ r * c := Nat.mul_le_mul_right c hi
  rw [Nat.add_mul, Nat.one_mul] at this; omega
theorem place_div {i j c : Nat} (hj : j < c) : (i * c + j) / c = i := by
  rw [Nat.mul_comm, Nat.mul_add_div (by omega), Nat.div_eq_of_lt hj, Nat.add_zero]
theorem place_mod {i j c : Nat} (hj : j < c) : (i * c + j) % c = j := by
  rw [Nat.mul_comm, Nat.mul_add_mod, Nat.mod_eq_of_lt hj]
theorem place_of (k c : Nat) : k / c * c + k % c = k := by rw [Nat.mul_comm]; exact Nat.div_add_mod k c
theorem div_lt_of {k r c : Nat} (h : k < r * c) : k / c < r := Nat.div_lt_of_lt_mul (by rw [Nat.mul_comm]; exact h)
theorem mod_lt_of {k r c : Nat} (h : k < r * c) : k % c < c := Nat.mod_lt _ (by rcases Nat.eq_zero_or_pos c with rfl | h' <;> omega)
def mk (n : Nat) (f : Nat → Int) : List Int := (List.range n).map f
theorem mk_len (n : Nat) (f : Nat → Int) : (mk n f).length = n := by simp [mk]
theorem mk_get (n : Nat) (f : Nat → Int) (k : Nat) (h : k < n) : (mk n f).getD k 0 = f k := by
  simp [mk, List.getD_eq_getElem?_getD, h]
theorem rd_mk (n : Nat) (f : Nat → Int) (k : Nat) (h : k < n) : rd (mk n f) (k : Int) = f k := mk_get n f k h
theorem rd_nat (l : List Int) (k : Nat) : rd l (k : Int) = l.getD k 0 := rfl
theorem mk_congr {n : Nat} {f g : Nat → Int} (h : ∀ k, k < n → f k = g k) : mk n f = mk n g := List.map_congr_left (fun k hk => h k (List.mem_range.1 hk))
theorem mk_set (n : Nat) (f : Nat → Int) (p : Nat) (v : Int) : (mk n f).set p v = mk n (fun k => if k = p then v else f k) := by
  apply List.ext_getElem
  · simp [mk]
  · intro i h1 h2
    simp only [mk, List.length_set, List.length_map, List.length_range] at h1
    rw [List.getElem_set]
    simp only [mk, List.getElem_map, List.getElem_range]
    by_cases e : p = i
    · subst e; simp
    · rw [if_neg e, if_neg (fun h => e h.symm)]
theorem mk_const (n : Nat) (v : Int) : List.replicate n v = mk n (fun _ => v) := by
  apply List.ext_getElem
  · simp [mk]
  · intro i h1 h2; simp [mk]
theorem mk_self (l : List Int) : mk l.length (fun k => l.getD k 0) = l := by
  apply List.ext_getElem
  · simp [mk]
  · intro i h1 h2
    simp only [mk, List.getElem_map, List.getElem_range]
    rw [List.getD_eq_getElem?_getD, List.getElem?_eq_getElem h2]; rfl
theorem mk_eq {n : Nat} {f : Nat → Int} {l : List Int} (hl : l.length = n) (h : ∀ k, k < n → l.getD k 0 = f k) : l = mk n f := by
  subst hl
  exact (mk_self l).symm.trans (mk_congr h)
theorem Ev.no {α : Type} {g : Nat → Option α} {r : α} (h : ∀ k, g (k + 1) = some r) : Ev g r := Ev.step (f := fun _ => some r) h (Ev.now r)
-- What the printed functions of the package view come to.
def okView (m n s o z : Int) : Prop := 0 ≤ m ∧ m ≤ 64 ∧ 0 ≤ n ∧ n ≤ 64 ∧ n ≤ s ∧ s ≤ 1048576 ∧ 0 ≤ o ∧ o ≤ 1048576 ∧ (m = 0 ∨ n = 0 ∨ o + (m - 1) * s + n - 1 < z)
instance (m n s o z : Int) : Decidable (okView m n s o z) := by unfold okView; infer_instance
theorem vside_eq (n : Int) : view_side.f n = some (decide (0 ≤ n ∧ n ≤ 64)) := by
  unfold view_side.f
  by_cases h : n ≥ 0
  · rw [if_pos h]; congr 1; rw [decide_eq_decide]; omega
  · rw [if_neg h, decide_eq_false (by omega)]
theorem mul_bd {a s : Int} (h0 : 0 ≤ a) (h1 : a ≤ 64) (h2 : 0 ≤ s) (h3 : s ≤ 1048576) : 0 ≤ a * s ∧ a * s ≤ 67108864 :=
  ⟨Int.mul_nonneg h0 h2, by have := Int.mul_le_mul h1 h3 h2 (by omega); omega⟩
theorem last_wrap {m n s o : Int} (h1 : 1 ≤ m) (h2 : m ≤ 64) (h3 : 0 ≤ n) (h4 : n ≤ 64) (h5 : 0 ≤ s) (h6 : s ≤ 1048576) (h7 : 0 ≤ o) (h8 : o ≤ 1048576) :
    wrap64 ((wrap64 ((wrap64 (o + (wrap64 ((wrap64 (m - 1)) * s)))) + n)) - 1) = o + (m - 1) * s + n - 1 := by
  have h := mul_bd (a := m - 1) (by omega) (by omega) h5 h6
  rw [w64 (x := m - 1) (by omega) (by omega)]
  generalize (m - 1) * s = q at *
  rw [w64 (x := q) (by omega) (by omega), w64 (x := o + q) (by omega) (by omega), w64 (x := o + q + n) (by omega) (by omega), w64 (by omega) (by omega)]
theorem vlast_eq {m n s o : Int} (h1 : 0 ≤ m) (h2 : m ≤ 64) (h3 : 0 ≤ n) (h4 : n ≤ 64) (h5 : 0 ≤ s) (h6 : s ≤ 1048576) (h7 : 0 ≤ o) (h8 : o ≤ 1048576) : view_last.f m n s o = some (if m = 0 ∨ n = 0 then -1 else o + (m - 1) * s + n - 1) := by
  unfold view_last.f
  by_cases a : m = 0
  · rw [if_pos a, if_pos (.inl a)]
  · by_cases b : n = 0
    · rw [if_neg a, if_pos b, if_pos (.inr b)]
    · rw [if_neg a, if_neg b, if_neg (by omega), last_wrap (by omega) h2 h3 h4 h5 h6 h7 h8]
theorem vcheck_eq (m n s o z : Int) (hz : 0 ≤ z) : view_Check.f m n s o z = some (if okView m n s o z then 0 else 11) := by
  unfold view_Check.f
  rw [vside_eq, Option.bind_some]
  by_cases h1 : 0 ≤ m ∧ m ≤ 64
  · rw [decide_eq_true h1, if_pos rfl, vside_eq, Option.bind_some]
    by_cases h2 : 0 ≤ n ∧ n ≤ 64
    · rw [decide_eq_true h2, if_pos rfl]
      by_cases h3 : s < n
      · rw [if_pos h3, if_neg (fun h : okView m n s o z => by have := h.2.2.2.2.1; omega)]
      rw [if_neg h3]
      by_cases h4 : s > 1048576
      · rw [if_pos h4, if_neg (fun h : okView m n s o z => by have := h.2.2.2.2.2.1; omega)]
      rw [if_neg h4]
      by_cases h5 : o < 0
      · rw [if_pos h5, if_neg (fun h : okView m n s o z => by have := h.2.2.2.2.2.2.1; omega)]
      rw [if_neg h5]
      by_cases h6 : o > 1048576
      · rw [if_pos h6, if_neg (fun h : okView m n s o z => by have := h.2.2.2.2.2.2.2.1; omega)]
      rw [if_neg h6, vlast_eq h1.1 h1.2 h2.1 h2.2 (by omega) (by omega) (by omega) (by omega), Option.bind_some]
      by_cases h7 : m = 0 ∨ n = 0
      · rw [if_pos h7, if_neg (by omega), if_pos (show okView m n s o z from ⟨h1.1, h1.2, h2.1, h2.2, by omega, by omega, by omega, by omega, by omega⟩)]
      · rw [if_neg h7]
        by_cases h8 : o + (m - 1) * s + n - 1 ≥ z
        · rw [if_pos h8, if_neg (fun h : okView m n s o z => by have := h.2.2.2.2.2.2.2.2; omega)]
        · rw [if_neg h8, if_pos (show okView m n s o z from ⟨h1.1, h1.2, h2.1, h2.2, by omega, by omega, by omega, by omega, by omega⟩)]
    · rw [decide_eq_false h2, if_neg (by decide), if_neg (fun h : okView m n s o z => h2 ⟨h.2.2.1, h.2.2.2.1⟩)]
  · rw [decide_eq_false h1, if_neg (by decide), if_neg (fun h : okView m n s o z => h1 ⟨h.1, h.2.1⟩)]
theorem vmay_eq (m n s o z : Int) : vernierlaw15_may.f m n s o z = some (decide (okView m n s o z)) := by
  unfold vernierlaw15_may.f
  by_cases a : m < 0
  · rw [if_pos a, decide_eq_false (fun h : okView m n s o z => by have := h.1; omega)]
  rw [if_neg a]
  by_cases b : m > 64
  · rw [if_pos b, decide_eq_false (fun h : okView m n s o z => by have := h.2.1; omega)]
  rw [if_neg b]
  by_cases c : n < 0
  · rw [if_pos c, decide_eq_false (fun h : okView m n s o z => by have := h.2.2.1; omega)]
  rw [if_neg c]
  by_cases d : n > 64
  · rw [if_pos d, decide_eq_false (fun h : okView m n s o z => by have := h.2.2.2.1; omega)]
  rw [if_neg d]
  by_cases h3 : s < n
  · rw [if_pos h3, decide_eq_false (fun h : okView m n s o z => by have := h.2.2.2.2.1; omega)]
  rw [if_neg h3]
  by_cases h4 : s > 1048576
  · rw [if_pos h4, decide_eq_false (fun h : okView m n s o z => by have := h.2.2.2.2.2.1; omega)]
  rw [if_neg h4]
  by_cases h5 : o < 0
  · rw [if_pos h5, decide_eq_false (fun h : okView m n s o z => by have := h.2.2.2.2.2.2.1; omega)]
  rw [if_neg h5]
  by_cases h6 : o > 1048576
  · rw [if_pos h6, decide_eq_false (fun h : okView m n s o z => by have := h.2.2.2.2.2.2.2.1; omega)]
  rw [if_neg h6]
  by_cases h7 : m = 0
  · rw [if_pos h7, decide_eq_true (show okView m n s o z from ⟨by omega, by omega, by omega, by omega, by omega, by omega, by omega, by omega, .inl h7⟩)]
  rw [if_neg h7]
  by_cases h8 : n = 0
  · rw [if_pos h8, decide_eq_true (show okView m n s o z from ⟨by omega, by omega, by omega, by omega, by omega, by omega, by omega, by omega, .inr (.inl h8)⟩)]
  rw [if_neg h8, last_wrap (by omega) (by omega) (by omega) (by omega) (by omega) (by omega) (by omega) (by omega)]
  congr 1
  rw [decide_eq_decide]
  exact ⟨fun h => ⟨by omega, by omega, by omega, by omega, by omega, by omega, by omega, by omega, .inr (.inr h)⟩, fun h => by have := h.2.2.2.2.2.2.2.2; omega⟩
theorem place_view {m n s o z i j : Int} (h : okView m n s o z) (hi : 0 ≤ i) (hi' : i < m) (hj : 0 ≤ j) (hj' : j < n) :
    wrap64 ((wrap64 (o + (wrap64 (i * s)))) + j) = o + i * s + j ∧ 0 ≤ o + i * s + j ∧ o + i * s + j < z := by
  obtain ⟨h1, h2, h3, h4, h5, h6, h7, h8, h9⟩ := h
  have b := mul_bd (a := i) (s := s) hi (by omega) (by omega) h6
  have c : i * s ≤ (m - 1) * s := Int.mul_le_mul_of_nonneg_right (by omega) (by omega)
  generalize i * s = p at *
  generalize (m - 1) * s = q at *
  rw [w64 (x := p) (by omega) (by omega), w64 (x := o + p) (by omega) (by omega), w64 (by omega) (by omega)]
  omega
theorem mkSnoc' (n : Nat) (f : Nat → Int) : mk n f ++ [f n] = mk (n + 1) f := by simp [mk, List.range_succ]
def pf (o s c k : Nat) : Int := ((o + k / c * s + k % c : Nat) : Int)
theorem pl_in {r c s o : Nat} (h : okView r c s o 1048576) {i : Nat} (hi : i < r)
    (R : List Int) (next : Ev (fun k => view_Places.l0 k (mk ((i + 1) * c) (pf o s c)) r ((i + 1 : Nat) : Int) r c s o) R) (d : Nat) : ∀ j : Nat, j + d = c →
    Ev (fun k => view_Places.l1 k (mk (i * c + j) (pf o s c)) i r i c j r c s o) R := by
  obtain ⟨h1, h2, h3, h4, h5, h6, h7, h8, _⟩ := id h
  induction d with
  | zero =>
    intro j hj
    obtain rfl : j = c := by omega
    refine Ev.step (fun k => ?_) next
    simp only [view_Places.l1]
    rw [if_neg (by omega), wsucc i (by omega), Nat.add_mul, Nat.one_mul]
  | succ d ih =>
    intro j hj
    obtain ⟨p1, p2, p3⟩ := place_view (i := (i : Int)) (j := (j : Int)) h (by omega) (by omega) (by omega) (by omega)
    have hic : i * c ≤ 64 * 64 := Nat.mul_le_mul (by omega) (by omega)
    refine Ev.step (fun k => ?_) (ih (j + 1) (by omega))
    simp only [view_Places.l1]
    rw [if_pos (by omega), p1, if_pos (by rw [mk_len]; omega), wsucc j (by omega)]
    have e : (o : Int) + (i : Int) * (s : Int) + (j : Int) = pf o s c (i * c + j) := by
      unfold pf
      rw [place_div (by omega), place_mod (by omega), ← Int.natCast_mul]; omega
    rw [e, mkSnoc', Nat.add_assoc]
theorem pl_out {r c s o : Nat} (h : okView r c s o 1048576) (d : Nat) : ∀ i : Nat, i + d = r →
    Ev (fun k => view_Places.l0 k (mk (i * c) (pf o s c)) r i r c s o) (mk (r * c) (pf o s c)) := by
  obtain ⟨h1, h2, h3, h4, h5, h6, h7, h8, _⟩ := id h
  induction d with
  | zero =>
    intro i hi
    obtain rfl : i = r := by omega
    refine Ev.no (fun k => ?_)
    simp only [view_Places.l0]; rw [if_neg (by omega)]
  | succ d ih =>
    intro i hi
    refine Ev.step (f := fun k => view_Places.l1 k (mk (i * c + 0) (pf o s c)) i r i c ((0 : Nat) : Int) r c s o) (fun k => ?_) (pl_in h (by omega) _ (ih (i + 1) (by omega)) c 0 (by omega))
    simp only [view_Places.l0]
    rw [if_pos (by omega)]; rfl
def plV (m n s o : Int) : List Int := if okView m n s o 1048576 then mk (m.toNat * n.toNat) (pf o.toNat s.toNat n.toNat) else []
theorem places_ev (m n s o : Int) : Ev (fun k => view_Places.f k m n s o) (plV m n s o) := by
  unfold view_Places.f plV
  rw [vcheck_eq _ _ _ _ _ (by decide)]
  by_cases g : okView m n s o 1048576
  · simp only [Option.bind_some, if_pos g, if_true]
    obtain ⟨h1, h2, h3, h4, h5, h6, h7, h8, _⟩ := id g
    obtain ⟨r, rfl⟩ := Int.eq_ofNat_of_zero_le h1
    obtain ⟨c, rfl⟩ := Int.eq_ofNat_of_zero_le h3
    obtain ⟨S, rfl⟩ := Int.eq_ofNat_of_zero_le (show 0 ≤ s by omega)
    obtain ⟨O, rfl⟩ := Int.eq_ofNat_of_zero_le h7
    have L := pl_out g r 0 (by omega)
    rw [Nat.zero_mul] at L
    exact L
  · simp only [Option.bind_some, if_neg g, if_neg (show ¬ (11 : Int) = 0 by decide)]
    exact Ev.now _
def apV (p q : List Int) : Bool := q.all fun y => !decide (y ∈ p)
theorem ap_l1 {p q : List Int} (hm : q.length < 9223372036854775807) (d : Nat) : ∀ i : Nat, i + d = q.length → Ev (fun k => view_Apart.l1 k p q (q.length : Int) i) (apV p (q.drop i)) := by
  induction d with
  | zero =>
    intro i hi
    refine Ev.no (fun k => ?_)
    simp only [view_Apart.l1]
    rw [if_neg (by omega), List.drop_of_length_le (by omega)]; rfl
  | succ d ih =>
    intro i hi
    have h1 : i < q.length := by omega
    have e1 : q.drop i = q.getD i 0 :: q.drop (i + 1) := by rw [List.getD_eq_getElem?_getD, List.getElem?_eq_getElem h1, List.drop_eq_getElem_cons h1]; rfl
    have e2 : apV p (q.drop i) = (!decide (q.getD i 0 ∈ p) && apV p (q.drop (i + 1))) := by rw [e1]; unfold apV; rw [List.all_cons]
    rw [e2]
    by_cases g : q.getD i 0 ∈ p
    · refine Ev.no (fun k => ?_)
      simp only [view_Apart.l1]
      rw [if_pos (by omega), if_pos (by omega), if_pos (by omega), rd_nat, if_pos g, decide_eq_true g]; rfl
    · rw [decide_eq_false g]
      refine Ev.step (fun k => ?_) (ih (i + 1) (by omega))
      simp only [view_Apart.l1]
      rw [if_pos (by omega), if_pos (by omega), if_pos (by omega), rd_nat, if_neg g, wsucc i (by omega)]
theorem plV_len (m n s o : Int) : (plV m n s o).length ≤ 4096 ∧ (okView m n s o 1048576 → ((plV m n s o).length : Int) = m * n) := by
  unfold plV
  by_cases g : okView m n s o 1048576
  · rw [if_pos g, mk_len]
    obtain ⟨h1, h2, h3, h4, _⟩ := id g
    obtain ⟨r, rfl⟩ := Int.eq_ofNat_of_zero_le h1
    obtain ⟨c, rfl⟩ := Int.eq_ofNat_of_zero_le h3
    exact ⟨by have hb : r * c ≤ 64 * 64 := Nat.mul_le_mul (by omega) (by omega); simpa using hb, fun _ => by simp⟩
  · rw [if_neg g]; exact ⟨by simp, fun h => absurd h g⟩
theorem ap_l0 {p : List Int} (hm : p.length ≤ 4096) (m n s o : Int) (d : Nat) : ∀ i : Nat, i + d = p.length → Ev (fun k => view_Apart.l0 k p (p.length : Int) i m n s o) (apV p (plV m n s o)) := by
  induction d with
  | zero =>
    intro i hi
    refine Ev.step (f := fun k => (view_Places.f k m n s o).bind fun t135 => (view_Apart.l1 k p t135 (t135.length : Int) ((0 : Nat) : Int))) (fun k => ?_) (Ev.bind (places_ev m n s o) (ap_l1 (by have := (plV_len m n s o).1; omega) (plV m n s o).length 0 (by omega)))
    simp only [view_Apart.l0]
    rw [if_neg (by omega)]; rfl
  | succ d ih =>
    intro i hi
    refine Ev.step (fun k => ?_) (ih (i + 1) (by omega))
    simp only [view_Apart.l0]
    rw [if_pos (by omega), if_pos (by omega), if_pos (by omega), wsucc i (by omega)]
theorem apart_ev (m n s o m' n' s' o' : Int) : Ev (fun k => view_Apart.f k m n s o m' n' s' o') (apV (plV m n s o) (plV m' n' s' o')) := by
  unfold view_Apart.f
  exact Ev.bind (places_ev m n s o) (ap_l0 (plV_len m n s o).1 m' n' s' o' (plV m n s o).length 0 (by omega))
def noneEq (p q : List Int) : Bool := p.all fun x => q.all fun y => x != y
theorem apV_eq (p q : List Int) : apV p q = noneEq p q := by
  unfold apV noneEq
  rw [Bool.eq_iff_iff]
  simp only [List.all_eq_true, bne_iff_ne, Bool.not_eq_true', decide_eq_false_iff_not]
  exact ⟨fun h x hx y hy e => h y hy (e ▸ hx), fun h y hy hx => h y hx y hy rfl⟩
theorem take_all {l : List Int} {i : Nat} (h : i < l.length) (f : Int → Bool) : (l.take (i + 1)).all f = ((l.take i).all f && f (l.getD i 0)) := by
  rw [List.take_add_one, List.getElem?_eq_getElem h, List.all_append]
  show ((l.take i).all f && ([l[i]].all f)) = _
  rw [List.getD_eq_getElem?_getD, List.getElem?_eq_getElem h]
  simp
theorem vp_l2 {p q : List Int} (hp : p.length ≤ 4096) (hq : q.length ≤ 4096) (m n s o m' n' s' o' : Int) {i : Nat} (hi : i < p.length)
    (next : Ev (fun k => vernierlaw15_ViewPlaces.l1 k p q (noneEq (p.take (i + 1)) q) ((i + 1 : Nat) : Int) m n s o m' n' s' o') true) (d : Nat) : ∀ j : Nat, j + d = q.length →
    Ev (fun k => vernierlaw15_ViewPlaces.l2 k p q (noneEq (p.take i) q && (q.take j).all fun y => p.getD i 0 != y) i j m n s o m' n' s' o') true := by
  induction d with
  | zero =>
    intro j hj
    have e : noneEq (p.take (i + 1)) q = (noneEq (p.take i) q && (q.take j).all fun y => p.getD i 0 != y) := by
      unfold noneEq
      rw [take_all hi, List.take_of_length_le (by omega : q.length ≤ j)]
    rw [e] at next
    refine Ev.step (fun k => ?_) next
    simp only [vernierlaw15_ViewPlaces.l2]
    rw [if_neg (by omega), wsucc i (by omega)]
  | succ d ih =>
    intro j hj
    have hj' : j < q.length := by omega
    have N := ih (j + 1) (by omega)
    rw [take_all hj', ← Bool.and_assoc] at N
    generalize (noneEq (p.take i) q && (q.take j).all fun y => p.getD i 0 != y) = b at *
    cases b with
    | true =>
      refine Ev.step (fun k => ?_) N
      simp only [vernierlaw15_ViewPlaces.l2]
      rw [if_pos (by omega), if_pos trivial, if_pos (by omega), if_pos (by omega), if_pos (by omega), rd_nat, rd_nat, wsucc j (by omega), Bool.true_and]
    | false =>
      refine Ev.step (fun k => ?_) N
      simp only [vernierlaw15_ViewPlaces.l2]
      rw [if_pos (by omega), if_neg (by decide), wsucc j (by omega), Bool.false_and]
theorem vp_l1 (m n s o m' n' s' o' : Int) (d : Nat) : ∀ i : Nat, i + d = (plV m n s o).length →
    Ev (fun k => vernierlaw15_ViewPlaces.l1 k (plV m n s o) (plV m' n' s' o') (noneEq ((plV m n s o).take i) (plV m' n' s' o')) i m n s o m' n' s' o') true := by
  have hp := (plV_len m n s o).1
  have hq := (plV_len m' n' s' o').1
  have A := apart_ev m n s o m' n' s' o'
  rw [apV_eq] at A
  generalize plV m n s o = p at *
  generalize plV m' n' s' o' = q at *
  induction d with
  | zero =>
    intro i hi
    refine Ev.step (f := fun k => (view_Apart.f k m n s o m' n' s' o').bind fun t140 => some (t140 == noneEq p q)) (fun k => ?_) (Ev.bind A ?_)
    · simp only [vernierlaw15_ViewPlaces.l1]
      rw [if_neg (by omega), List.take_of_length_le (by omega)]
    · rw [beq_self_eq_true]; exact Ev.now _
  | succ d ih =>
    intro i hi
    have L := vp_l2 hp hq m n s o m' n' s' o' (i := i) (by omega) (ih (i + 1) (by omega)) q.length 0 (by omega)
    rw [List.take_zero, List.all_nil, Bool.and_true] at L
    refine Ev.step (fun k => ?_) L
    simp only [vernierlaw15_ViewPlaces.l1]
    rw [if_pos (by omega)]; rfl
theorem vp_l0 (m n s o m' n' s' o' : Int) (d : Nat) : ∀ i : Nat, i + d = (plV m n s o).length →
    Ev (fun k => vernierlaw15_ViewPlaces.l0 k (plV m n s o) (plV m' n' s' o') i m n s o m' n' s' o') true := by
  have hp := (plV_len m n s o).1
  induction d with
  | zero =>
    intro i hi
    have L := vp_l1 m n s o m' n' s' o' (plV m n s o).length 0 (by omega)
    rw [List.take_zero] at L
    refine Ev.step (fun k => ?_) L
    simp only [vernierlaw15_ViewPlaces.l0]
    rw [if_neg (by omega)]; rfl
  | succ d ih =>
    intro i hi
    refine Ev.step (fun k => ?_) (ih (i + 1) (by omega))
    have hi' : i < (plV m n s o).length := by omega
    have g : okView m n s o 1048576 := by
      by_cases g : okView m n s o 1048576
      · exact g
      · unfold plV at hi'; rw [if_neg g] at hi'; exact absurd hi' (Nat.not_lt_zero _)
    obtain ⟨h1, h2, h3, h4, h5, h6, h7, h8, _⟩ := id g
    simp only [vernierlaw15_ViewPlaces.l0]
    rw [if_pos (by omega), if_pos (by omega)]
    obtain ⟨r, rfl⟩ := Int.eq_ofNat_of_zero_le h1
    obtain ⟨c, rfl⟩ := Int.eq_ofNat_of_zero_le h3
    obtain ⟨S, rfl⟩ := Int.eq_ofNat_of_zero_le (show 0 ≤ s by omega)
    obtain ⟨O, rfl⟩ := Int.eq_ofNat_of_zero_le h7
    have hl : i < r * c := by unfold plV at hi'; rw [if_pos g, mk_len] at hi'; exact hi'
    have hc : c ≠ 0 := by rintro rfl; omega
    have a1 := div_lt_of hl
    have a2 := mod_lt_of hl
    rw [if_neg (by omega), wsucc i (by omega), rd_nat]
    obtain ⟨p1, p2, p3⟩ := place_view (i := ((i / c : Nat) : Int)) (j := ((i % c : Nat) : Int)) g (Int.natCast_nonneg _) (Int.ofNat_lt.2 a1) (Int.natCast_nonneg _) (Int.ofNat_lt.2 a2)
    have e1 : Int.tdiv (i : Int) (c : Int) = ((i / c : Nat) : Int) := by rw [Int.tdiv_eq_ediv_of_nonneg (by omega)]; rfl
    have e2 : Int.tmod (i : Int) (c : Int) = ((i % c : Nat) : Int) := by rw [Int.tmod_eq_emod_of_nonneg (by omega)]; rfl
    have e3 : (plV r c S O).getD i 0 = (O : Int) + ((i / c : Nat) : Int) * (S : Int) + ((i % c : Nat) : Int) := by
      unfold plV
      rw [if_pos g]
      show (mk (r * c) (pf O S c)).getD i 0 = _
      rw [mk_get _ _ _ hl]
      unfold pf
      rw [← Int.natCast_mul]; omega
    rw [e1, e2, wN _ (by have := Nat.div_le_self i c; omega), p1, e3, if_pos rfl]
theorem vp_ev (m n s o m' n' s' o' : Int) : Ev (fun k => vernierlaw15_ViewPlaces.f k m n s o m' n' s' o') true := by
  unfold vernierlaw15_ViewPlaces.f
  rw [show vernierlaw15_alive.f = some true by decide +kernel, vmay_eq]
  simp only [Option.bind_some, if_true]
  have hlen := plV_len m n s o
  refine Ev.bind (places_ev m n s o) (Ev.bind (places_ev m' n' s' o') ?_)
  have L := vp_l0 m n s o m' n' s' o' (plV m n s o).length 0 (by omega)
  by_cases g : okView m n s o 1048576
  · rw [decide_eq_true g]
    simp only [if_true]
    refine Ev.step (fun k => ?_) L
    simp only [vernierlaw15_ViewPlaces.j0]
    have := hlen.2 g
    rw [if_pos (by rw [← this, w64 (by omega) (by omega)])]; rfl
  · rw [decide_eq_false g]
    simp only [if_neg (show ¬ (false = true) by decide)]
    refine Ev.step (fun k => ?_) L
    simp only [vernierlaw15_ViewPlaces.j0]
    have : (plV m n s o).length = 0 := by unfold plV; rw [if_neg g]; rfl
    rw [if_pos (by rw [this]; rfl)]; rfl
theorem ViewPlaces_walk (W : World) (m n s o : Int) (_wm : (Lit.int .i64 m).wf = true) (_wn : (Lit.int .i64 n).wf = true) (_ws : (Lit.int .i64 s).wf = true) (_wo : (Lit.int .i64 o).wf = true) (m' n' s' o' : Int) (_wm' : (Lit.int .i64 m').wf = true) (_wn' : (Lit.int .i64 n').wf = true) (_ws' : (Lit.int .i64 s').wf = true) (_wo' : (Lit.int .i64 o').wf = true) :
    Calls Try.prog 8 #[.agg #[.int .i64 m, .int .i64 n, .int .i64 s, .int .i64 o], .agg #[.int .i64 m', .int .i64 n', .int .i64 s', .int .i64 o']] W fun e w' => e = .returned (.bool true) ∧ Below W.heap.size W w' := by
  obtain ⟨k, e⟩ := (vp_ev m n s o m' n' s' o').rounds
  exact (vernierlaw15_ViewPlaces.calls k m n s o m' n' s' o' true W e).mono fun e w' h => h
end Go.Proofs.Ytdkmmelbadcpjaa.Pure
