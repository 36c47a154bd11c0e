/- ShapeTurns: transposed, each number stands where row and column are changed; transposed twice it is the matrix. For every matrix. -/
import Derived.Test.YtdkmmelbadcpjaaPShapeTurnsx3
namespace Go.Proofs.Ytdkmmelbadcpjaa.Pure
open Go.RowKit Go.Proofs.Ytdkmmelbadcpjaa.PShapeTurns Go.Proofs.YtdkmmelbadcpjaaW.PrintWords Go.Proofs.YtdkmmelbadcpjaaW.PrintLast Go.Proofs.YtdkmmelbadcpjaaW.PrintMore
-- Whole numbers that fit; places in a matrix; lists made of a function.
theorem w64 {x : Int} (h0 : -9223372036854775808 ≤ x) (h1 : x < 9223372036854775808) : wrap64 x = x := by unfold wrap64; omega
theorem wN (n : Nat) (h : n < 9223372036854775808) : wrap64 (n : Int) = (n : Int) := w64 (by omega) (by omega)
theorem wmul (a b : Nat) (h : a * b < 9223372036854775808) : wrap64 ((a : Int) * (b : Int)) = ((a * b : Nat) : Int) := by rw [← Int.natCast_mul]; exact wN _ h
theorem wadd (a b : Nat) (h : a + b < 9223372036854775808) : wrap64 ((a : Int) + (b : Int)) = ((a + b : Nat) : Int) := by rw [← Int.natCast_add]; exact wN _ h
theorem wsucc (a : Nat) (h : a + 1 < 9223372036854775808) : wrap64 ((a : Int) + 1) = ((a + 1 : Nat) : Int) := wadd a 1 h
theorem place_lt {i j r c : Nat} (hi : i < r) (hj : j < c) : i * c + j < r * c := by
  have : (i + 1) * c ≤ r * c := Nat.mul_le_mul_right c hi
  rw [Nat.add_mul, Nat.one_mul] at this; omega
theorem place_div {i j c : Nat} (hj : j < c) : (i * c + j) / c = i := by
  rw [Nat.mul_comm, Nat.mul_add_div (by omega), Nat.div_eq_of_lt hj, Nat.add_zero]
theorem place_mod {i j c : Nat} (hj : j < c) : (i * c + j) % c = j := by
  rw [Nat.mul_comm, Nat.mul_add_mod, Nat.mod_eq_of_lt hj]
theorem place_of (k c : Nat) : k / c * c + k % c = k := by rw [Nat.mul_comm]; exact Nat.div_add_mod k c
theorem div_lt_of {k r c : Nat} (h : k < r * c) : k / c < r := Nat.div_lt_of_lt_mul (by rw [Nat.mul_comm]; exact h)
theorem mod_lt_of {k r c : Nat} (h : k < r * c) : k % c < c := Nat.mod_lt _ (by rcases Nat.eq_zero_or_pos c with rfl | h' <;> omega)
def mk (n : Nat) (f : Nat → Int) : List Int := (List.range n).map f
theorem mk_len (n : Nat) (f : Nat → Int) : (mk n f).length = n := by simp [mk]
theorem mk_get (n : Nat) (f : Nat → Int) (k : Nat) (h : k < n) : (mk n f).getD k 0 = f k := by
  simp [mk, List.getD_eq_getElem?_getD, h]
theorem rd_mk (n : Nat) (f : Nat → Int) (k : Nat) (h : k < n) : rd (mk n f) (k : Int) = f k := mk_get n f k h
theorem rd_nat (l : List Int) (k : Nat) : rd l (k : Int) = l.getD k 0 := rfl
theorem mk_congr {n : Nat} {f g : Nat → Int} (h : ∀ k, k < n → f k = g k) : mk n f = mk n g := List.map_congr_left (fun k hk => h k (List.mem_range.1 hk))
theorem mk_set (n : Nat) (f : Nat → Int) (p : Nat) (v : Int) : (mk n f).set p v = mk n (fun k => if k = p then v else f k) := by
  apply List.ext_getElem
  · simp [mk]
  · intro i h1 h2
    simp only [mk, List.length_set, List.length_map, List.length_range] at h1
    rw [List.getElem_set]
    simp only [mk, List.getElem_map, List.getElem_range]
    by_cases e : p = i
    · subst e; simp
    · rw [if_neg e, if_neg (fun h => e h.symm)]
theorem mk_const (n : Nat) (v : Int) : List.replicate n v = mk n (fun _ => v) := by
  apply List.ext_getElem
  · simp [mk]
  · intro i h1 h2; simp [mk]
theorem mk_self (l : List Int) : mk l.length (fun k => l.getD k 0) = l := by
  apply List.ext_getElem
  · simp [mk]
  · intro i h1 h2
    simp only [mk, List.getElem_map, List.getElem_range]
    rw [List.getD_eq_getElem?_getD, List.getElem?_eq_getElem h2]; rfl
theorem mk_eq {n : Nat} {f : Nat → Int} {l : List Int} (hl : l.length = n) (h : ∀ k, k < n → l.getD k 0 = f k) : l = mk n f := by
  subst hl
  exact (mk_self l).symm.trans (mk_congr h)
theorem Ev.no {α : Type} {g : Nat → Option α} {r : α} (h : ∀ k, g (k + 1) = some r) : Ev g r := Ev.step (f := fun _ => some r) h (Ev.now r)
theorem same_l (a b : List Int) (hl : a.length = b.length) (hm : a.length < 9223372036854775807) (d : Nat) : ∀ i : Nat, i + d = a.length → Ev (fun k => vernierref01_Same.l0 k a b i) (decide (a.drop i = b.drop i)) := by
  induction d with
  | zero =>
    intro i hi
    refine Ev.no (fun k => ?_)
    simp only [vernierref01_Same.l0]; rw [if_neg (by omega), List.drop_of_length_le (by omega), List.drop_of_length_le (by omega)]; rfl
  | succ d ih =>
    intro i hi
    have h1 : i < a.length := by omega
    have h2 : i < b.length := by omega
    have e1 : a.drop i = a.getD i 0 :: a.drop (i + 1) := by rw [List.getD_eq_getElem?_getD, List.getElem?_eq_getElem h1, List.drop_eq_getElem_cons h1]; rfl
    have e2 : b.drop i = b.getD i 0 :: b.drop (i + 1) := by rw [List.getD_eq_getElem?_getD, List.getElem?_eq_getElem h2, List.drop_eq_getElem_cons h2]; rfl
    have hs : ∀ k, vernierref01_Same.l0 (k + 1) a b i = if a.getD i 0 = b.getD i 0 then vernierref01_Same.l0 k a b ((i + 1 : Nat) : Int) else some false := fun k => by
      simp only [vernierref01_Same.l0]; rw [if_pos (by omega), if_pos (by omega), if_pos (by omega), rd_nat, rd_nat, wsucc _ (by omega)]
    by_cases e : a.getD i 0 = b.getD i 0
    · refine Ev.step (f := fun k => vernierref01_Same.l0 k a b ((i + 1 : Nat) : Int)) (fun k => by rw [hs, if_pos e]) ?_
      have := ih (i + 1) (by omega)
      rw [e1, e2, e]
      simpa using this
    · refine Ev.no (fun k => ?_)
      rw [hs, if_neg e, e1, e2, decide_eq_false (fun h => e (List.cons.inj h).1)]
theorem same_ev (a b : List Int) (hm : a.length < 9223372036854775807) : Ev (fun k => vernierref01_Same.f k a b) (decide (a = b)) := by
  by_cases h : a.length = b.length
  · refine Ev.congr (f := fun k => vernierref01_Same.l0 k a b ((0 : Nat) : Int)) (fun k => ?_) ?_
    · unfold vernierref01_Same.f; rw [if_pos (by omega)]; rfl
    · simpa using same_l a b h hm a.length 0 (by omega)
  · refine Ev.congr (f := fun _ => some false) (fun k => ?_) ?_
    · unfold vernierref01_Same.f; rw [if_neg (by omega)]
    · rw [decide_eq_false (fun e => h (by rw [e]))]; exact Ev.now _
-- What the printed functions of the package shape come to.
def okMat (m n : Int) (l : List Int) : Prop := 1 ≤ m ∧ m ≤ 64 ∧ 1 ≤ n ∧ n ≤ 64 ∧ (l.length : Int) = m * n
instance (m n : Int) (l : List Int) : Decidable (okMat m n l) := by unfold okMat; infer_instance
theorem prod_le {m n : Int} (h0 : 1 ≤ m) (h1 : m ≤ 64) (h2 : 1 ≤ n) (h3 : n ≤ 64) : 1 ≤ m * n ∧ m * n ≤ 4096 := by
  constructor
  · have := Int.mul_le_mul h0 h2 (by omega) (by omega); omega
  · have := Int.mul_le_mul h1 h3 (by omega) (by omega); omega
theorem wprod {m n : Int} (h0 : 1 ≤ m) (h1 : m ≤ 64) (h2 : 1 ≤ n) (h3 : n ≤ 64) : wrap64 (m * n) = m * n := by
  have := prod_le h0 h1 h2 h3; exact w64 (by omega) (by omega)
theorem side_eq (n : Int) : shape_side.f n = some (decide (1 ≤ n ∧ n ≤ 64)) := by
  unfold shape_side.f
  by_cases h : n ≥ 1
  · rw [if_pos h]; congr 1; rw [decide_eq_decide]; omega
  · rw [if_neg h]; congr 1; rw [eq_comm, decide_eq_false_iff_not]; omega
theorem check_eq (m n : Int) (l : List Int) : shape_Check.f m n l = some (if okMat m n l then 0 else 11) := by
  unfold shape_Check.f
  rw [side_eq, Option.bind_some]
  by_cases h1 : 1 ≤ m ∧ m ≤ 64
  · rw [decide_eq_true h1, if_pos rfl, side_eq, Option.bind_some]
    by_cases h2 : 1 ≤ n ∧ n ≤ 64
    · rw [decide_eq_true h2, if_pos rfl, wprod h1.1 h1.2 h2.1 h2.2]
      by_cases h3 : (l.length : Int) = m * n
      · rw [if_pos h3, if_pos (show okMat m n l from ⟨h1.1, h1.2, h2.1, h2.2, h3⟩)]
      · rw [if_neg h3, if_neg (fun h : okMat m n l => h3 h.2.2.2.2)]
    · rw [decide_eq_false h2, if_neg (by decide), if_neg (fun h : okMat m n l => h2 ⟨h.2.2.1, h.2.2.2.1⟩)]
  · rw [decide_eq_false h1, if_neg (by decide), if_neg (fun h : okMat m n l => h1 ⟨h.1, h.2.1⟩)]
/-- The matrix, transposed: of r rows, c columns. -/
def tr (r c : Nat) (l : List Int) : List Int := mk (c * r) (fun k => l.getD (k % r * c + k / r) 0)
def trP (r c : Nat) (l : List Int) (i j : Nat) : List Int := mk (c * r) (fun k => if k % r < i ∨ (k % r = i ∧ k / r < j) then l.getD (k % r * c + k / r) 0 else 0)
theorem trP_set (r c : Nat) (l : List Int) (i j : Nat) (hi : i < r) : (trP r c l i j).set (j * r + i) (l.getD (i * c + j) 0) = trP r c l i (j + 1) := by
  unfold trP
  rw [mk_set]
  refine mk_congr (fun k hk => ?_)
  have hr : k % r < r := Nat.mod_lt _ (by omega)
  by_cases e : k = j * r + i
  · rw [if_pos e, e, place_mod hi, place_div hi, if_pos (by omega)]
  · rw [if_neg e]
    have hne : ¬ (k % r = i ∧ k / r = j) := fun h => e (by rw [← h.1, ← h.2]; exact (place_of k r).symm)
    by_cases h : k % r < i ∨ (k % r = i ∧ k / r < j)
    · rw [if_pos h, if_pos (by omega)]
    · rw [if_neg h, if_neg (by omega)]
theorem trP_row (r c : Nat) (l : List Int) (i : Nat) : trP r c l i c = trP r c l (i + 1) 0 := by
  refine mk_congr (fun k hk => ?_)
  have hc : k / r < c := div_lt_of hk
  generalize k / r = q at *
  by_cases h : k % r < i + 1
  · rw [if_pos (by omega), if_pos (by omega)]
  · rw [if_neg (by omega), if_neg (by omega)]
theorem trP_end (r c : Nat) (l : List Int) : trP r c l r 0 = tr r c l := by
  refine mk_congr (fun k hk => ?_)
  have hr : k % r < r := mod_lt_of hk
  rw [if_pos (by omega)]
theorem trP_zero (r c : Nat) (l : List Int) : trP r c l 0 0 = List.replicate (c * r) 0 := by
  rw [mk_const]
  refine mk_congr (fun k hk => ?_)
  generalize k / r = q
  rw [if_neg (by omega)]
theorem tr_inner (r c : Nat) (l : List Int) (hr : r ≤ 64) (hc : c ≤ 64) (hl : l.length = r * c) (R : Int × Int × List Int × Int) (i : Nat) (hi : i < r)
    (next : Ev (fun k => shape_Transpose.l0 k r ((i + 1 : Nat) : Int) r c l c r (trP r c l (i + 1) 0)) R) (d : Nat) : ∀ j : Nat, j + d = c → Ev (fun k => shape_Transpose.l1 k i r i c j r c l c r (trP r c l i j)) R := by
  have hb : r * c ≤ 64 * 64 := Nat.mul_le_mul hr hc
  have hb' : c * r ≤ 64 * 64 := Nat.mul_le_mul hc hr
  induction d with
  | zero =>
    intro j hj
    obtain rfl : j = c := by omega
    refine Ev.step (f := fun k => shape_Transpose.l0 k r ((i + 1 : Nat) : Int) r j l j r (trP r j l (i + 1) 0)) (fun k => ?_) next
    simp only [shape_Transpose.l1]; rw [if_neg (by omega), wsucc _ (by omega), trP_row]
  | succ d ih =>
    intro j hj
    have h1 := place_lt (i := i) (j := j) hi (by omega : j < c)
    have h2 := place_lt (i := j) (j := i) (by omega : j < c) hi
    refine Ev.step (f := fun k => shape_Transpose.l1 k i r i c ((j + 1 : Nat) : Int) r c l c r (trP r c l i (j + 1))) (fun k => ?_) (ih (j + 1) (by omega))
    simp only [shape_Transpose.l1]
    rw [if_pos (by omega), wmul i c (by omega), wadd _ _ (by omega), if_pos (by omega), if_pos (by omega), wmul j r (by omega), wadd _ _ (by omega), if_pos (by omega), if_pos (by unfold trP; rw [mk_len]; omega)]
    rw [wsucc _ (by omega), rd_nat, Int.toNat_natCast, trP_set r c l i j hi]
theorem tr_outer (r c : Nat) (l : List Int) (hr : r ≤ 64) (hc : c ≤ 64) (hl : l.length = r * c) (d : Nat) : ∀ i : Nat, i + d = r → Ev (fun k => shape_Transpose.l0 k r i r c l c r (trP r c l i 0)) ((c : Int), (r : Int), tr r c l, 0) := by
  induction d with
  | zero =>
    intro i hi
    obtain rfl : i = r := by omega
    refine Ev.no (fun k => ?_)
    simp only [shape_Transpose.l0]; rw [if_neg (by omega), trP_end]
  | succ d ih =>
    intro i hi
    refine Ev.step (f := fun k => shape_Transpose.l1 k i r i c ((0 : Nat) : Int) r c l c r (trP r c l i 0)) (fun k => ?_) (tr_inner r c l hr hc hl _ i (by omega) (ih (i + 1) (by omega)) c 0 (by omega))
    simp only [shape_Transpose.l0]; rw [if_pos (by omega)]; rfl
theorem transpose_no {m n : Int} {l : List Int} (h : ¬ okMat m n l) : Ev (fun k => shape_Transpose.f k m n l) (0, 0, [], 11) := by
  refine Ev.congr (f := fun _ => some (0, 0, [], 11)) (fun k => ?_) (Ev.now _)
  unfold shape_Transpose.f
  rw [check_eq, Option.bind_some, if_neg h, if_neg (by decide)]
theorem transpose_ok {r c : Nat} {l : List Int} (h : okMat r c l) : Ev (fun k => shape_Transpose.f k r c l) ((c : Int), (r : Int), tr r c l, 0) := by
  obtain ⟨h1, h2, h3, h4, h5⟩ := h
  have h6 : l.length = r * c := by exact_mod_cast h5
  have hb : r * c ≤ 64 * 64 := Nat.mul_le_mul (by omega) (by omega)
  refine Ev.congr (f := fun k => shape_Transpose.l0 k r ((0 : Nat) : Int) r c l c r (trP r c l 0 0)) (fun k => ?_) (tr_outer r c l (by omega) (by omega) h6 r 0 (by omega))
  unfold shape_Transpose.f
  rw [check_eq, Option.bind_some, if_pos (show okMat r c l from ⟨h1, h2, h3, h4, h5⟩), if_pos rfl, if_pos (by omega), if_pos (by omega), trP_zero, Int.toNat_natCast, h6, Nat.mul_comm c r]; rfl
theorem tr_len (r c : Nat) (l : List Int) : (tr r c l).length = c * r := mk_len _ _
theorem tr_tr (r c : Nat) (l : List Int) (hl : l.length = r * c) : tr c r (tr r c l) = l := by
  symm
  refine mk_eq hl (fun k hk => ?_)
  have h1 : k % c < c := mod_lt_of hk
  have h2 : k / c < r := div_lt_of hk
  unfold tr
  rw [mk_get _ _ _ (place_lt h1 h2), place_mod h2, place_div h2, place_of]
theorem tr_at (r c : Nat) (l : List Int) {i j : Nat} (hi : i < r) (hj : j < c) : (tr r c l).getD (j * r + i) 0 = l.getD (i * c + j) 0 := by
  unfold tr; rw [mk_get _ _ _ (place_lt hj hi), place_mod hi, place_div hi]
theorem alive14 : Ev (fun k => vernierlaw14_alive.f k) true := Ev.of vernierlaw14_alive.mono (k := 4) (by decide +kernel)
theorem may_eq (m n : Int) (l : List Int) : vernierlaw14_may.f m n l = some (decide (okMat m n l)) := by
  unfold vernierlaw14_may.f
  by_cases a : m ≥ 1
  · by_cases b : m ≤ 64
    · by_cases c : n ≥ 1
      · by_cases d : n ≤ 64
        · rw [if_pos a, if_pos b, if_pos c, if_pos d, wprod a b c d]; congr 1
          by_cases e : (l.length : Int) = m * n
          · rw [beq_iff_eq.mpr e, decide_eq_true (show okMat m n l from ⟨a, b, c, d, e⟩)]
          · rw [beq_eq_false_iff_ne.mpr e, decide_eq_false (fun h : okMat m n l => e h.2.2.2.2)]
        · rw [if_pos a, if_pos b, if_pos c, if_neg d, decide_eq_false (fun h : okMat m n l => d h.2.2.2.1)]
      · rw [if_pos a, if_pos b, if_neg c, decide_eq_false (fun h : okMat m n l => c h.2.2.1)]
    · rw [if_pos a, if_neg b, decide_eq_false (fun h : okMat m n l => b h.2.1)]
  · rw [if_neg a, decide_eq_false (fun h : okMat m n l => a h.1)]
theorem same14 (m n : Int) (a b : List Int) (hm : a.length < 9223372036854775807) : Ev (fun k => vernierlaw14_same.f k m n a m n b) (decide (a = b)) := by
  refine Ev.congr (f := fun k => (vernierref01_Same.f k a b).bind fun t => some t) (fun k => ?_) (Ev.bind (same_ev a b hm) (Ev.now _))
  unfold vernierlaw14_same.f
  rw [if_pos rfl, if_pos rfl]
theorem law_inner (r c : Nat) (l : List Int) (hr : r ≤ 64) (hc : c ≤ 64) (hl : l.length = r * c) (u : Int × Int × List Int) (i : Nat) (hi : i < r)
    (next : Ev (fun k => vernierlaw14_ShapeTurns.l0 k 0 0 ((i + 1 : Nat) : Int) r c l c r (tr r c l) u.1 u.2.1 u.2.2) true) (d : Nat) : ∀ j : Nat, j + d = c → Ev (fun k => vernierlaw14_ShapeTurns.l1 k 0 0 i j r c l c r (tr r c l) u.1 u.2.1 u.2.2) true := by
  have hb : r * c ≤ 64 * 64 := Nat.mul_le_mul hr hc
  have hb' : c * r ≤ 64 * 64 := Nat.mul_le_mul hc hr
  induction d with
  | zero =>
    intro j hj
    obtain rfl : j = c := by omega
    refine Ev.step (f := fun k => vernierlaw14_ShapeTurns.l0 k 0 0 ((i + 1 : Nat) : Int) r j l j r (tr r j l) u.1 u.2.1 u.2.2) (fun k => ?_) next
    simp only [vernierlaw14_ShapeTurns.l1]; rw [if_neg (by omega), wsucc _ (by omega)]
  | succ d ih =>
    intro j hj
    have h1 := place_lt (i := i) (j := j) hi (by omega : j < c)
    have h2 := place_lt (i := j) (j := i) (by omega : j < c) hi
    refine Ev.step (f := fun k => vernierlaw14_ShapeTurns.l1 k 0 0 i ((j + 1 : Nat) : Int) r c l c r (tr r c l) u.1 u.2.1 u.2.2) (fun k => ?_) (ih (j + 1) (by omega))
    simp only [vernierlaw14_ShapeTurns.l1]
    rw [if_pos (by omega), wmul j r (by omega), wadd _ _ (by omega), if_pos (by omega), if_pos (by rw [tr_len]; omega), wmul i c (by omega), wadd _ _ (by omega), if_pos (by omega), if_pos (by omega)]
    rw [wsucc _ (by omega), rd_nat, rd_nat, tr_at r c l hi (by omega), if_pos rfl]
theorem law_outer (r c : Nat) (l : List Int) (hr : r ≤ 64) (hc : c ≤ 64) (hl : l.length = r * c) (d : Nat) : ∀ i : Nat, i + d = r → Ev (fun k => vernierlaw14_ShapeTurns.l0 k 0 0 i r c l c r (tr r c l) r c l) true := by
  have hb : r * c ≤ 64 * 64 := Nat.mul_le_mul hr hc
  induction d with
  | zero =>
    intro i hi
    obtain rfl : i = r := by omega
    refine Ev.step (f := fun k => (vernierlaw14_same.f k i c l i c l).bind fun t => if t = true then (if (c : Int) = c then some ((i : Int) == i) else some false) else some false) (fun k => ?_) (Ev.bind (same14 i c l l (by omega)) ?_)
    · simp only [vernierlaw14_ShapeTurns.l0]; rw [if_neg (by omega)]; simp only [if_true]
    · simp only [decide_true, if_true, beq_self_eq_true]; exact Ev.now _
  | succ d ih =>
    intro i hi
    refine Ev.step (f := fun k => vernierlaw14_ShapeTurns.l1 k 0 0 i ((0 : Nat) : Int) r c l c r (tr r c l) r c l) (fun k => ?_) (law_inner r c l hr hc hl (r, c, l) i (by omega) (ih (i + 1) (by omega)) c 0 (by omega))
    simp only [vernierlaw14_ShapeTurns.l0]; rw [if_pos (by omega)]; rfl
theorem ShapeTurns_pure (m n : Int) (l : List Int) : Ev (fun k => vernierlaw14_ShapeTurns.f k m n l) true := by
  refine Ev.bind alive14 ?_
  simp only [if_true]
  by_cases h : okMat m n l
  · obtain ⟨r, rfl⟩ := Int.eq_ofNat_of_zero_le (show 0 ≤ m by have := h.1; omega)
    obtain ⟨c, rfl⟩ := Int.eq_ofNat_of_zero_le (show 0 ≤ n by have := h.2.2.1; omega)
    have hl : l.length = r * c := by exact_mod_cast h.2.2.2.2
    obtain ⟨h1, h2, h3, h4, h5⟩ := h
    refine Ev.bind (transpose_ok ⟨h1, h2, h3, h4, h5⟩) ?_
    simp only [may_eq, Option.bind_some, decide_eq_true (show okMat r c l from ⟨h1, h2, h3, h4, h5⟩), if_true, show ((tr r c l).length : Int) = l.length by rw [tr_len, hl, Nat.mul_comm]]
    refine Ev.bind (transpose_ok (r := c) (c := r) (l := tr r c l) ⟨h3, h4, h1, h2, by rw [tr_len]; exact_mod_cast rfl⟩) ?_
    rw [tr_tr r c l hl]
    exact law_outer r c l (by omega) (by omega) hl r 0 (by omega)
  · refine Ev.bind (transpose_no h) ?_
    simp only [may_eq, Option.bind_some, decide_eq_false h]
    exact Ev.now _
theorem ShapeTurns_walk (W : World) (m n : Int) (A : Option Addr) (c : Nat) (l : List Int) (_wm : (Lit.int .i64 m).wf = true) (_wn : (Lit.int .i64 n).wf = true) (hr : Kd.C (Kd.int .u64) W A l.length l) (hc : l.length ≤ c) (_hm : l.length ≤ maxLen) (_hw : ∀ x ∈ l, (Lit.int .u64 x).wf = true) :
    Calls Try.prog 4 #[.agg #[.int .i64 m, .int .i64 n, .slice A l.length c]] W fun e w' => e = .returned (.bool true) ∧ Below W.heap.size W w' := by
  obtain ⟨k, h⟩ := (ShapeTurns_pure m n l).rounds
  exact (vernierlaw14_ShapeTurns.calls k m n A c l true W hr hc h).mono fun e w' h => h
end Go.Proofs.Ytdkmmelbadcpjaa.Pure
