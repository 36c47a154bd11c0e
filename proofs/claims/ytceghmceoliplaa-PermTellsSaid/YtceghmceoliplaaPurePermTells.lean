/- PermTells: which lists are permutations, what undoes one, and one behind another one, are as the page says. For any two lists and any number. -/
import Derived.Test.YtceghmceoliplaaPPermTellsx3
namespace Go.Proofs.Ytceghmceoliplaa.Pure
open Go.RowKit Go.Proofs.Ytceghmceoliplaa.PPermTells Go.Proofs.YtceghmceoliplaaW.PrintWords Go.Proofs.YtceghmceoliplaaW.PrintLast Go.Proofs.YtceghmceoliplaaW.PrintMore
-- Whole numbers that fit; places in a matrix; lists made of a function.
theorem w64 {x : Int} (h0 : -9223372036854775808 ≤ x) (h1 : x < 9223372036854775808) : wrap64 x = x := by unfold wrap64; omega
theorem wN (n : Nat) (h : n < 9223372036854775808) : wrap64 (n : Int) = (n : Int) := w64 (by omega) (by omega)
theorem wmul (a b : Nat) (h : a * b < 9223372036854775808) : wrap64 ((a : Int) * (b : Int)) = ((a * b : Nat) : Int) := by rw [← Int.natCast_mul]; exact wN _ h
theorem wadd (a b : Nat) (h : a + b < 9223372036854775808) : wrap64 ((a : Int) + (b : Int)) = ((a + b : Nat) : Int) := by rw [← Int.natCast_add]; exact wN _ h
theorem wsucc (a : Nat) (h : a + 1 < 9223372036854775808) : wrap64 ((a : Int) + 1) = ((a + 1 : Nat) : Int) := wadd a 1 h
theorem place_lt {i j r c : Nat} (hi : i < r) (hj : j < c) : i * c + j < r * c := by
  have : (i + 1) * c ≤ r * c := Nat.mul_le_mul_right c hi
  rw [Nat.add_mul, Nat.one_mul] at this; omega
theorem place_div {i j c : Nat} (hj : j < c) : (i * c + j) / c = i := by
  rw [Nat.mul_comm, Nat.mul_add_div (by omega), Nat.div_eq_of_lt hj, Nat.add_zero]
theorem place_mod {i j c : Nat} (hj : j < c) : (i * c + j) % c = j := by
  rw [Nat.mul_comm, Nat.mul_add_mod, Nat.mod_eq_of_lt hj]
theorem place_of (k c : Nat) : k / c * c + k % c = k := by rw [Nat.mul_comm]; exact Nat.div_add_mod k c
theorem div_lt_of {k r c : Nat} (h : k < r * c) : k / c < r := Nat.div_lt_of_lt_mul (by rw [Nat.mul_comm]; exact h)
theorem mod_lt_of {k r c : Nat} (h : k < r * c) : k % c < c := Nat.mod_lt _ (by rcases Nat.eq_zero_or_pos c with rfl | h' <;> omega)
def mk (n : Nat) (f : Nat → Int) : List Int := (List.range n).map f
theorem mk_len (n : Nat) (f : Nat → Int) : (mk n f).length = n := by simp [mk]
theorem mk_get (n : Nat) (f : Nat → Int) (k : Nat) (h : k < n) : (mk n f).getD k 0 = f k := by
  simp [mk, List.getD_eq_getElem?_getD, h]
theorem rd_mk (n : Nat) (f : Nat → Int) (k : Nat) (h : k < n) : rd (mk n f) (k : Int) = f k := mk_get n f k h
theorem rd_nat (l : List Int) (k : Nat) : rd l (k : Int) = l.getD k 0 := rfl
theorem mk_congr {n : Nat} {f g : Nat → Int} (h : ∀ k, k < n → f k = g k) : mk n f = mk n g := List.map_congr_left (fun k hk => h k (List.mem_range.1 hk))
theorem mk_set (n : Nat) (f : Nat → Int) (p : Nat) (v : Int) : (mk n f).set p v = mk n (fun k => if k = p then v else f k) := by
  apply List.ext_getElem
  · simp [mk]
  · intro i h1 h2
    simp only [mk, List.length_set, List.length_map, List.length_range] at h1
    rw [List.getElem_set]
    simp only [mk, List.getElem_map, List.getElem_range]
    by_cases e : p = i
    · subst e; simp
    · rw [if_neg e, if_neg (fun h => e h.symm)]
theorem mk_const (n : Nat) (v : Int) : List.replicate n v = mk n (fun _ => v) := by
  apply List.ext_getElem
  · simp [mk]
  · intro i h1 h2; simp [mk]
theorem mk_self (l : List Int) : mk l.length (fun k => l.getD k 0) = l := by
  apply List.ext_getElem
  · simp [mk]
  · intro i h1 h2
    simp only [mk, List.getElem_map, List.getElem_range]
    rw [List.getD_eq_getElem?_getD, List.getElem?_eq_getElem h2]; rfl
theorem mk_eq {n : Nat} {f : Nat → Int} {l : List Int} (hl : l.length = n) (h : ∀ k, k < n → l.getD k 0 = f k) : l = mk n f := by
  subst hl
  exact (mk_self l).symm.trans (mk_congr h)
theorem Ev.no {α : Type} {g : Nat → Option α} {r : α} (h : ∀ k, g (k + 1) = some r) : Ev g r := Ev.step (f := fun _ => some r) h (Ev.now r)
-- Permutations as lists: what is one, and its parity.
theorem pig : ∀ (n : Nat) (l : List Int), l.Nodup → (∀ x ∈ l, 0 ≤ x ∧ x < (n : Int)) → l.length ≤ n ∧ (l.length = n → ∀ v : Int, 0 ≤ v → v < (n : Int) → v ∈ l)
  | 0, l, _, h => by
    cases l with
    | nil => exact ⟨Nat.le_refl _, fun _ v h0 h1 => by omega⟩
    | cons x l => have := h x List.mem_cons_self; omega
  | n + 1, l, hn, h => by
    by_cases hm : (n : Int) ∈ l
    · have hl : (l.erase (n : Int)).length = l.length - 1 := List.length_erase_of_mem hm
      have hp : 0 < l.length := List.length_pos_of_mem hm
      have I := pig n (l.erase (n : Int)) (hn.erase _) (fun x hx => by
        have h1 := (hn.mem_erase_iff).1 hx
        have h2 := h x h1.2
        have h3 := h1.1
        omega)
      refine ⟨by omega, fun he v h0 h1 => ?_⟩
      by_cases g : v = (n : Int)
      · rw [g]; exact hm
      · exact List.mem_of_mem_erase (I.2 (by omega) v h0 (by omega))
    · have I := pig n l hn (fun x hx => by
        have h2 := h x hx
        have h3 : x ≠ (n : Int) := fun e => hm (e ▸ hx)
        omega)
      exact ⟨by omega, fun he => by omega⟩
def isP (n : Nat) (l : List Int) : Prop := l.length = n ∧ l.Nodup ∧ ∀ x ∈ l, 0 ≤ x ∧ x < (n : Int)
theorem isP_get {n : Nat} {l : List Int} (h : isP n l) {i : Nat} (hi : i < n) : 0 ≤ l.getD i 0 ∧ l.getD i 0 < (n : Int) := by
  have hi' : i < l.length := by rw [h.1]; exact hi
  have : l.getD i 0 ∈ l := by rw [List.getD_eq_getElem?_getD, List.getElem?_eq_getElem hi']; exact List.getElem_mem hi'
  exact h.2.2 _ this
theorem isP_inj {n : Nat} {l : List Int} (h : isP n l) {i j : Nat} (hi : i < n) (hj : j < n) (e : l.getD i 0 = l.getD j 0) : i = j := by
  have hi' : i < l.length := by rw [h.1]; exact hi
  have hj' : j < l.length := by rw [h.1]; exact hj
  rw [List.getD_eq_getElem?_getD, List.getD_eq_getElem?_getD, List.getElem?_eq_getElem hi', List.getElem?_eq_getElem hj'] at e
  have P := List.pairwise_iff_getElem.1 h.2.1
  apply Classical.byContradiction
  intro hne
  rcases Nat.lt_or_gt_of_ne hne with g | g
  · exact P i j hi' hj' g e
  · exact P j i hj' hi' g e.symm
theorem isP_sur {n : Nat} {l : List Int} (h : isP n l) {v : Nat} (hv : v < n) : ∃ i, i < n ∧ l.getD i 0 = (v : Int) := by
  have := (pig n l h.2.1 h.2.2).2 h.1 v (by omega) (by omega)
  obtain ⟨i, hi, e⟩ := List.mem_iff_getElem.1 this
  refine ⟨i, by rw [← h.1]; exact hi, ?_⟩
  rw [List.getD_eq_getElem?_getD, List.getElem?_eq_getElem hi]; exact e
theorem isP_of {n : Nat} {l : List Int} (hl : l.length = n) (hb : ∀ i, i < n → 0 ≤ l.getD i 0 ∧ l.getD i 0 < (n : Int)) (hi : ∀ i j, i < n → j < n → l.getD i 0 = l.getD j 0 → i = j) : isP n l := by
  refine ⟨hl, ?_, fun x hx => ?_⟩
  · refine List.pairwise_iff_getElem.2 (fun i j h1 h2 hij e => ?_)
    have := hi i j (by omega) (by omega) (by rw [List.getD_eq_getElem?_getD, List.getD_eq_getElem?_getD, List.getElem?_eq_getElem h1, List.getElem?_eq_getElem h2, e])
    omega
  · obtain ⟨i, h1, e⟩ := List.mem_iff_getElem.1 hx
    have := hb i (by omega)
    rw [List.getD_eq_getElem?_getD, List.getElem?_eq_getElem h1] at this
    rw [← e]; exact this
theorem ext_getD {n : Nat} {a b : List Int} (ha : a.length = n) (hb : b.length = n) (h : ∀ i, i < n → a.getD i 0 = b.getD i 0) : a = b := by
  apply List.ext_getElem (by omega)
  intro i h1 h2
  have := h i (by omega)
  rw [List.getD_eq_getElem?_getD, List.getD_eq_getElem?_getD, List.getElem?_eq_getElem h1, List.getElem?_eq_getElem h2] at this
  exact this
theorem getD_set (l : List Int) (i : Nat) (v : Int) (j : Nat) (hi : i < l.length) : (l.set i v).getD j 0 = if j = i then v else l.getD j 0 := by
  rw [List.getD_eq_getElem?_getD, List.getElem?_set, List.getD_eq_getElem?_getD]
  by_cases g : i = j
  · subst g; rw [if_pos rfl, if_pos hi, if_pos rfl]; rfl
  · rw [if_neg g, if_neg (fun e => g e.symm)]
/-- Two places changed. -/
def sw (l : List Int) (i j : Nat) : List Int := (l.set i (l.getD j 0)).set j (l.getD i 0)
theorem sw_len (l : List Int) (i j : Nat) : (sw l i j).length = l.length := by unfold sw; rw [List.length_set, List.length_set]
theorem sw_get (l : List Int) {i j : Nat} (hi : i < l.length) (hj : j < l.length) (t : Nat) : (sw l i j).getD t 0 = if t = j then l.getD i 0 else if t = i then l.getD j 0 else l.getD t 0 := by
  unfold sw
  rw [getD_set _ _ _ _ (by rw [List.length_set]; exact hj), getD_set _ _ _ _ hi]
theorem sw_at (l : List Int) {i j : Nat} (hi : i < l.length) (hj : j < l.length) (t : Nat) : (sw l i j).getD t 0 = l.getD (if t = j then i else if t = i then j else t) 0 := by
  rw [sw_get l hi hj]
  split
  · rfl
  · split <;> rfl
theorem sw_P {n : Nat} {l : List Int} (h : isP n l) {i j : Nat} (hi : i < n) (hj : j < n) : isP n (sw l i j) := by
  have hl := h.1
  refine isP_of (by rw [sw_len, hl]) (fun t ht => ?_) (fun s t hs ht e => ?_)
  · rw [sw_at l (by omega) (by omega)]
    exact isP_get h (by split; exact hi; split; exact hj; exact ht)
  · rw [sw_at l (by omega) (by omega), sw_at l (by omega) (by omega)] at e
    have := isP_inj h (by split; exact hi; split; exact hj; exact hs) (by split; exact hi; split; exact hj; exact ht) e
    split at this <;> split at this <;> (repeat' split at this) <;> omega
theorem sw_same (l : List Int) {i : Nat} (hi : i < l.length) : sw l i i = l := by
  refine ext_getD (n := l.length) (sw_len _ _ _) rfl (fun t ht => ?_)
  rw [sw_get l hi hi]
  split
  · rename_i h; rw [h]
  · rfl
theorem sw_comm (l : List Int) {i j : Nat} (hi : i < l.length) (hj : j < l.length) : sw l i j = sw l j i := by
  refine ext_getD (n := l.length) (sw_len _ _ _) (sw_len _ _ _) (fun t ht => ?_)
  rw [sw_get l hi hj, sw_get l hj hi]
  by_cases a : t = j <;> by_cases b : t = i <;> simp [a, b] <;> (try omega)
  · intro h; rw [← a, b] at *
-- parity
def sg2 (x y : Int) : Bool := decide (y < x)
def cn (x : Int) : List Int → Bool
  | [] => false
  | y :: l => sg2 x y ^^ cn x l
def nc (y : Int) : List Int → Bool
  | [] => false
  | b :: l => sg2 b y ^^ nc y l
def cross : List Int → List Int → Bool
  | [], _ => false
  | a :: A, B => cn a B ^^ cross A B
def pty : List Int → Bool
  | [] => false
  | x :: l => cn x l ^^ pty l
def par : List Int → Bool
  | [] => false
  | _ :: l => !par l
theorem cn_append (x : Int) : ∀ A B : List Int, cn x (A ++ B) = (cn x A ^^ cn x B)
  | [], B => by simp [cn]
  | a :: A, B => by simp only [List.cons_append, cn]; rw [cn_append x A B, Bool.xor_assoc]
theorem cross_cons (y : Int) (C : List Int) : ∀ A : List Int, cross A (y :: C) = (nc y A ^^ cross A C)
  | [] => rfl
  | a :: A => by
    simp only [cross, cn, nc]; rw [cross_cons y C A]
    generalize sg2 a y = p; generalize cn a C = q; generalize nc y A = r; generalize cross A C = s
    cases p <;> cases q <;> cases r <;> cases s <;> rfl
theorem cross_append (B C : List Int) : ∀ A : List Int, cross A (B ++ C) = (cross A B ^^ cross A C)
  | [] => rfl
  | a :: A => by
    simp only [cross]; rw [cross_append B C A, cn_append]
    generalize cn a B = p; generalize cn a C = q; generalize cross A B = r; generalize cross A C = s
    cases p <;> cases q <;> cases r <;> cases s <;> rfl
theorem pty_append (B : List Int) : ∀ A : List Int, pty (A ++ B) = ((pty A ^^ cross A B) ^^ pty B)
  | [] => by simp [pty, cross]
  | a :: A => by
    simp only [List.cons_append, pty, cross]; rw [pty_append B A, cn_append]
    generalize cn a A = p; generalize cn a B = q; generalize pty A = r; generalize cross A B = s; generalize pty B = t
    cases p <;> cases q <;> cases r <;> cases s <;> cases t <;> rfl
theorem cn_nc (x : Int) : ∀ B : List Int, x ∉ B → nc x B = (cn x B ^^ par B)
  | [], _ => rfl
  | b :: B, h => by
    simp only [nc, cn, par]; rw [cn_nc x B (fun hm => h (List.mem_cons_of_mem _ hm))]
    have : sg2 b x = !sg2 x b := by
      have hne : x ≠ b := fun e => h (e ▸ List.mem_cons_self)
      unfold sg2
      by_cases g : x < b
      · rw [decide_eq_true g, decide_eq_false (by omega)]; rfl
      · rw [decide_eq_false g, decide_eq_true (by omega)]; rfl
    rw [this]
    generalize sg2 x b = p; generalize cn x B = q; generalize par B = r
    cases p <;> cases q <;> cases r <;> rfl
theorem pty_flip (A B C : List Int) (x y : Int) (hxy : x ≠ y) (hx : x ∉ B) (hy : y ∉ B) : pty (A ++ y :: (B ++ x :: C)) = !pty (A ++ x :: (B ++ y :: C)) := by
  have e1 : ∀ u v : Int, pty (A ++ u :: (B ++ v :: C)) = ((pty A ^^ (nc u A ^^ (cross A B ^^ (nc v A ^^ cross A C)))) ^^ ((cn u B ^^ (sg2 u v ^^ cn u C)) ^^ ((pty B ^^ (nc v B ^^ cross B C)) ^^ (cn v C ^^ pty C)))) := fun u v => by
    rw [pty_append, cross_cons, cross_append, cross_cons]
    simp only [pty]
    rw [pty_append, cross_cons, cn_append]
    simp only [cn, pty]
  rw [e1, e1, cn_nc x B hx, cn_nc y B hy]
  have : sg2 y x = !sg2 x y := by
    unfold sg2
    by_cases g : y < x
    · rw [decide_eq_true g, decide_eq_false (by omega)]; rfl
    · rw [decide_eq_false g, decide_eq_true (by omega)]; rfl
  rw [this]
  have key : ∀ a b c d e f g h i j k l m n : Bool, ((a ^^ (b ^^ (c ^^ (d ^^ e)))) ^^ ((f ^^ (!g ^^ h)) ^^ ((i ^^ ((j ^^ k) ^^ l)) ^^ (m ^^ n)))) = !((a ^^ (d ^^ (c ^^ (b ^^ e)))) ^^ ((j ^^ (g ^^ m)) ^^ ((i ^^ ((f ^^ k) ^^ l)) ^^ (h ^^ n)))) := by
    decide +kernel
  exact key _ _ _ _ _ _ _ _ _ _ _ _ _ _
theorem split_at (l : List Int) (i : Nat) (h : i < l.length) : ∃ A x C, l = A ++ x :: C ∧ A.length = i := by
  refine ⟨l.take i, l[i], l.drop (i + 1), ?_, by rw [List.length_take]; omega⟩
  rw [← List.drop_eq_getElem_cons h, List.take_append_drop]
theorem sw_split (A B C : List Int) (x y : Int) : sw (A ++ x :: (B ++ y :: C)) A.length (A.length + 1 + B.length) = A ++ y :: (B ++ x :: C) := by
  have e1 : (A ++ x :: (B ++ y :: C)).getD A.length 0 = x := by simp [List.getD_eq_getElem?_getD]
  have e2 : (A ++ x :: (B ++ y :: C)).getD (A.length + 1 + B.length) 0 = y := by
    rw [List.getD_eq_getElem?_getD, List.getElem?_append_right (by omega), show A.length + 1 + B.length - A.length = B.length + 1 by omega, List.getElem?_cons_succ, List.getElem?_append_right (Nat.le_refl _), Nat.sub_self]; rfl
  unfold sw
  rw [e1, e2, List.set_append_right _ _ (Nat.le_refl _), Nat.sub_self, List.set_cons_zero, List.set_append_right _ _ (by omega), show A.length + 1 + B.length - A.length = B.length + 1 by omega, List.set_cons_succ, List.set_append_right _ _ (Nat.le_refl _), Nat.sub_self, List.set_cons_zero]
theorem pty_sw {n : Nat} {l : List Int} (h : isP n l) {i j : Nat} (hi : i < n) (hj : j < n) (hne : i ≠ j) : pty (sw l i j) = !pty l := by
  have main : ∀ i j : Nat, i < j → j < n → pty (sw l i j) = !pty l := by
    intro i j hij hj
    obtain ⟨A, x, D, hl, hA⟩ := split_at l i (by rw [h.1]; omega)
    have hD : j - i - 1 < D.length := by
      have := congrArg List.length hl
      rw [List.length_append, List.length_cons, h.1] at this; omega
    obtain ⟨B, y, C, hD2, hB⟩ := split_at D (j - i - 1) hD
    subst hD2
    have hj2 : j = A.length + 1 + B.length := by omega
    have hnd := h.2.1
    rw [hl] at hnd
    have h1 := (List.nodup_append.1 hnd).2.1
    have h2 := List.nodup_cons.1 h1
    have h3 := List.nodup_append.1 h2.2
    have hxB : x ∉ B := fun hm => h2.1 (List.mem_append_left _ hm)
    have hxy : x ≠ y := fun e => h2.1 (List.mem_append_right _ (e ▸ List.mem_cons_self))
    have hyB : y ∉ B := fun hm => h3.2.2 y hm y List.mem_cons_self rfl
    rw [hj2, ← hA, hl, sw_split]
    exact pty_flip A B C x y hxy hxB hyB
  have hl := h.1
  rcases Nat.lt_or_gt_of_ne hne with g | g
  · exact main i j g hj
  · rw [sw_comm l (by omega) (by omega)]; exact main j i g hi
theorem cn_less (x : Int) : ∀ l : List Int, (∀ y ∈ l, x < y) → cn x l = false
  | [], _ => rfl
  | y :: l, h => by
    have h1 := h y List.mem_cons_self
    unfold cn sg2
    rw [decide_eq_false (by omega), cn_less x l (fun z hz => h z (List.mem_cons_of_mem _ hz))]; rfl
theorem pty_sorted : ∀ l : List Int, l.Pairwise (· < ·) → pty l = false
  | [], _ => rfl
  | x :: l, h => by
    have h1 := List.pairwise_cons.1 h
    unfold pty
    rw [cn_less x l h1.1, pty_sorted l h1.2]; rfl
def idL (n : Nat) : List Int := (List.range n).map (fun (i : Nat) => (i : Int))
theorem idL_len (n : Nat) : (idL n).length = n := by simp [idL]
theorem idL_get {n i : Nat} (h : i < n) : (idL n).getD i 0 = (i : Int) := by simp [idL, List.getD_eq_getElem?_getD, h]
theorem idL_P (n : Nat) : isP n (idL n) := isP_of (idL_len n) (fun i hi => by rw [idL_get hi]; omega) (fun i j hi hj e => by rw [idL_get hi, idL_get hj] at e; omega)
theorem idL_pty (n : Nat) : pty (idL n) = false := by
  refine pty_sorted _ ?_
  unfold idL
  rw [List.pairwise_map]
  exact List.pairwise_lt_range.imp (fun h => by omega)
-- how many places are not fixed
def cnt (f : Nat → Bool) : Nat → Nat
  | 0 => 0
  | n + 1 => cnt f n + (if f n then 1 else 0)
theorem cnt_le (f g : Nat → Bool) : ∀ n, (∀ t, t < n → g t = true → f t = true) → cnt g n ≤ cnt f n
  | 0, _ => Nat.le_refl _
  | n + 1, h => by
    have I := cnt_le f g n (fun t ht => h t (by omega))
    have := h n (by omega)
    unfold cnt
    by_cases a : g n = true
    · rw [if_pos a, if_pos (this a)]; omega
    · rw [if_neg a]; omega
theorem cnt_lt (f g : Nat → Bool) : ∀ n, (∀ t, t < n → g t = true → f t = true) → ∀ s, s < n → f s = true → g s = false → cnt g n < cnt f n
  | 0, _, s, hs, _, _ => by omega
  | n + 1, h, s, hs, hf, hg => by
    have := h n (by omega)
    unfold cnt
    by_cases e : s = n
    · subst e
      have I := cnt_le f g s (fun t ht => h t (by omega))
      rw [hf, hg, if_pos rfl, if_neg (by decide)]; omega
    · have I := cnt_lt f g n (fun t ht => h t (by omega)) s (by omega) hf hg
      by_cases a : g n = true
      · rw [if_pos a, if_pos (this a)]; omega
      · rw [if_neg a]; omega
def nf (n : Nat) (l : List Int) : Nat := cnt (fun t => decide (l.getD t 0 ≠ (t : Int))) n
theorem nf_sw {n : Nat} {l : List Int} (h : isP n l) {i k : Nat} (hi : i < n) (hk : l.getD i 0 = (k : Int)) (hne : k ≠ i) : k < n ∧ nf n (sw l i k) < nf n l := by
  have hb := isP_get h hi
  have hl := h.1
  have hkn : k < n := by omega
  refine ⟨hkn, cnt_lt _ _ n (fun t ht hg => ?_) k hkn ?_ ?_⟩
  · rw [decide_eq_true_iff] at hg ⊢
    rw [sw_get l (by omega) (by omega)] at hg
    by_cases a : t = k
    · rw [if_pos a, hk, a] at hg; exact absurd rfl hg
    · rw [if_neg a] at hg
      by_cases b : t = i
      · rw [b, hk]; omega
      · rw [if_neg b] at hg; exact hg
  · rw [decide_eq_true_iff]
    intro e
    have := isP_inj h hkn hi (by rw [e, hk]); omega
  · rw [decide_eq_false_iff_not, Classical.not_not, sw_get l (by omega) (by omega), if_pos rfl, hk]
theorem nodup_perm : ∀ (m l : List Int), m.Nodup → (∀ x ∈ m, x ∈ l) → m.length = l.length → m.Perm l
  | [], l, _, _, h => by
    have : l = [] := List.eq_nil_of_length_eq_zero h.symm
    subst this; exact List.Perm.refl _
  | x :: m, l, hn, hs, h => by
    have h1 := List.nodup_cons.1 hn
    have hx := hs x List.mem_cons_self
    have hl : (l.erase x).length = l.length - 1 := List.length_erase_of_mem hx
    rw [List.length_cons] at h
    have I := nodup_perm m (l.erase x) h1.2 (fun y hy => (List.mem_erase_of_ne (fun e : y = x => h1.1 (e ▸ hy))).2 (hs y (List.mem_cons_of_mem _ hy))) (by omega)
    exact (List.Perm.cons x I).trans (List.perm_cons_erase hx).symm
theorem isP_of_mem {n : Nat} {l : List Int} (hl : l.length = n) (h : ∀ v : Nat, v < n → (v : Int) ∈ l) : isP n l := by
  have P := nodup_perm (idL n) l (idL_P n).2.1 (fun x hx => by
    have hb := (idL_P n).2.2 x hx
    have := h x.toNat (by omega)
    rwa [show ((x.toNat : Nat) : Int) = x by omega] at this) (by rw [idL_len, hl])
  exact ⟨hl, P.nodup_iff.1 (idL_P n).2.1, fun x hx => (idL_P n).2.2 x (P.mem_iff.2 hx)⟩
-- perm's functions, plainly.
theorem permGo_eq (n : Int) (hn : n ≤ 64) : ∀ (l : List Int) (m : List Bool), m.length = 64 → permGo n l m = if (∀ x ∈ l, 0 ≤ x ∧ x < n ∧ m.getD x.toNat false = false) ∧ l.Nodup then 0 else 9
  | [], m, _ => by simp [permGo]
  | x :: l, m, hm => by
    unfold permGo
    by_cases h1 : x < 0
    · rw [if_pos h1, if_neg (fun h => by have := (h.1 x List.mem_cons_self).1; omega)]
    rw [if_neg h1]
    by_cases h2 : x ≥ n
    · rw [if_pos h2, if_neg (fun h => by have := (h.1 x List.mem_cons_self).2.1; omega)]
    rw [if_neg h2]
    by_cases h3 : m.getD x.toNat false = true
    · rw [if_pos h3, if_neg (fun h => by have := (h.1 x List.mem_cons_self).2.2; rw [h3] at this; cases this)]
    rw [if_neg h3, permGo_eq n hn l (m.set x.toNat true) (by rw [List.length_set]; exact hm)]
    have hx : x.toNat < m.length := by omega
    have hset : ∀ y : Int, 0 ≤ y → ((m.set x.toNat true).getD y.toNat false = false ↔ y ≠ x ∧ m.getD y.toNat false = false) := by
      intro y hy
      rw [List.getD_eq_getElem?_getD, List.getElem?_set, List.getD_eq_getElem?_getD]
      by_cases g : x.toNat = y.toNat
      · rw [if_pos g, if_pos hx]
        have : y = x := by omega
        simp [this]
      · rw [if_neg g]
        have : y ≠ x := fun e => g (by rw [e])
        simp [this]
    have hiff : ((∀ z ∈ l, 0 ≤ z ∧ z < n ∧ (m.set x.toNat true).getD z.toNat false = false) ∧ l.Nodup) ↔ ((∀ z ∈ x :: l, 0 ≤ z ∧ z < n ∧ m.getD z.toNat false = false) ∧ (x :: l).Nodup) := by
      rw [List.nodup_cons]
      constructor
      · rintro ⟨a, b⟩
        refine ⟨fun z hz => ?_, fun hm => ?_, b⟩
        · rcases List.mem_cons.1 hz with rfl | hz
          · exact ⟨by omega, by omega, by cases hq : m.getD z.toNat false; rfl; exact absurd hq h3⟩
          · have := a z hz; exact ⟨this.1, this.2.1, ((hset z this.1).1 this.2.2).2⟩
        · have := a x hm; exact ((hset x this.1).1 this.2.2).1 rfl
      · rintro ⟨a, b, c⟩
        refine ⟨fun z hz => ?_, c⟩
        have := a z (List.mem_cons_of_mem _ hz)
        exact ⟨this.1, this.2.1, (hset z this.1).2 ⟨fun e => b (e ▸ hz), this.2.2⟩⟩
    by_cases g : (∀ z ∈ l, 0 ≤ z ∧ z < n ∧ (m.set x.toNat true).getD z.toNat false = false) ∧ l.Nodup
    · rw [if_pos g, if_pos (hiff.1 g)]
    · rw [if_neg g, if_neg (fun h => g (hiff.2 h))]
/-- A permutation of at most 64. -/
def okP (l : List Int) : Prop := l.length ≤ 64 ∧ isP l.length l
instance (l : List Int) : Decidable (okP l) := by unfold okP isP; infer_instance
theorem pcheck_eq (l : List Int) : perm_Check.f l = some (if okP l then 0 else 9) := by
  unfold perm_Check.f
  by_cases h : (l.length : Int) > 64
  · rw [if_pos h, if_neg (fun g : okP l => by have := g.1; omega)]
  · rw [if_neg h, permGo_eq _ (by omega) _ _ (by simp)]
    have hiff : ((∀ x ∈ l, 0 ≤ x ∧ x < (l.length : Int) ∧ (List.replicate 64 false).getD x.toNat false = false) ∧ l.Nodup) ↔ okP l := by
      have hz : ∀ j : Nat, (List.replicate 64 false).getD j false = false := fun j => by
        rw [List.getD_eq_getElem?_getD]
        by_cases g : j < 64
        · rw [List.getElem?_replicate_of_lt g]; rfl
        · rw [List.getElem?_eq_none (by simp; omega)]; rfl
      constructor
      · rintro ⟨a, b⟩; exact ⟨by omega, rfl, b, fun x hx => ⟨(a x hx).1, (a x hx).2.1⟩⟩
      · rintro ⟨_, _, b, c⟩; exact ⟨fun x hx => ⟨(c x hx).1, (c x hx).2, hz _⟩, b⟩
    by_cases g : okP l
    · rw [if_pos g, if_pos (hiff.2 g)]
    · rw [if_neg g, if_neg (fun e => g (hiff.1 e))]
theorem identity_l (n : Nat) (hn : n ≤ 64) (d : Nat) : ∀ i : Nat, i + d = n → Ev (fun k => perm_Identity.l0 k (idL i) n i) (idL n) := by
  induction d with
  | zero =>
    intro i hi
    obtain rfl : i = n := by omega
    refine Ev.no (fun k => ?_)
    simp only [perm_Identity.l0]; rw [if_neg (by omega)]
  | succ d ih =>
    intro i hi
    refine Ev.step (f := fun k => perm_Identity.l0 k (idL (i + 1)) n ((i + 1 : Nat) : Int)) (fun k => ?_) (ih (i + 1) (by omega))
    simp only [perm_Identity.l0]
    rw [if_pos (by omega), if_pos (by rw [idL_len]; omega), wsucc _ (by omega)]
    rw [show idL i ++ [(i : Int)] = idL (i + 1) by unfold idL; rw [List.range_succ, List.map_append]; rfl]
theorem identity_ev (n : Int) : Ev (fun k => perm_Identity.f k n) (if 0 ≤ n ∧ n ≤ 64 then idL n.toNat else []) := by
  have J : ∀ x : Bool, x = !decide (0 ≤ n ∧ n ≤ 64) → Ev (fun k => perm_Identity.j0 k n x) (if 0 ≤ n ∧ n ≤ 64 then idL n.toNat else []) := by
    intro x hx
    by_cases g : 0 ≤ n ∧ n ≤ 64
    · rw [decide_eq_true g] at hx; subst hx
      rw [if_pos g]
      obtain ⟨N, rfl⟩ := Int.eq_ofNat_of_zero_le g.1
      rw [Int.toNat_natCast]
      refine Ev.step (f := fun k => perm_Identity.l0 k (idL 0) N ((0 : Nat) : Int)) (fun k => ?_) (identity_l N (by omega) N 0 (by omega))
      simp only [perm_Identity.j0]; rw [if_neg (by decide)]; rfl
    · rw [decide_eq_false g] at hx; subst hx
      rw [if_neg g]
      refine Ev.no (fun k => ?_)
      simp only [perm_Identity.j0]; rw [if_pos (by decide)]
  unfold perm_Identity.f
  by_cases h : n < 0
  · simp only [if_pos h]; exact J true (by rw [decide_eq_false (by omega)]; rfl)
  · simp only [if_neg h]
    refine J _ ?_
    by_cases g : n > 64
    · rw [decide_eq_true g, decide_eq_false (by omega)]; rfl
    · rw [decide_eq_false g, decide_eq_true (by omega)]; rfl
theorem clone_eq {l : List Int} (h : l.length ≤ 64) : slices_Clone_int_int.f l = some l := by unfold slices_Clone_int_int.f; rw [if_pos (by omega)]
theorem rd_get (l : List Int) (i : Nat) : rd l (i : Int) = l.getD i 0 := rfl
-- is, the law's own word
theorem is_l1 (l : List Int) (hm : l.length < 9223372036854775807) (v : Int) (R : Bool) (next : l.count v = 1 → Ev (fun k => vernierlaw17_is.l0 k l (wrap64 (v + 1))) R) (hno : l.count v ≠ 1 → R = false) (d : Nat) : ∀ i : Nat, i + d = l.length →
    Ev (fun k => vernierlaw17_is.l1 k l v (((l.take i).count v : Nat) : Int) i) R := by
  induction d with
  | zero =>
    intro i hi
    rw [List.take_of_length_le (by omega)]
    by_cases g : l.count v = 1
    · refine Ev.step (f := fun k => vernierlaw17_is.l0 k l (wrap64 (v + 1))) (fun k => ?_) (next g)
      simp only [vernierlaw17_is.l1]; rw [if_neg (by omega), if_pos (by omega)]
    · refine Ev.no (fun k => ?_)
      simp only [vernierlaw17_is.l1]; rw [if_neg (by omega), if_neg (by omega), hno g]
  | succ d ih =>
    intro i hi
    have h1 : i < l.length := by omega
    have hc : (l.take i).count v ≤ i := Nat.le_trans List.count_le_length (by rw [List.length_take]; omega)
    have e1 : l.take (i + 1) = l.take i ++ [l.getD i 0] := by rw [List.take_succ_eq_append_getElem h1, List.getD_eq_getElem?_getD, List.getElem?_eq_getElem h1]; rfl
    have I := ih (i + 1) (by omega)
    rw [e1, List.count_append, List.count_singleton] at I
    by_cases g : l.getD i 0 = v
    · rw [g, if_pos (by simp)] at I
      refine Ev.step (f := fun k => vernierlaw17_is.l1 k l v (((l.take i).count v + 1 : Nat) : Int) ((i + 1 : Nat) : Int)) (fun k => ?_) I
      simp only [vernierlaw17_is.l1]
      rw [if_pos (by omega), if_pos (by omega), rd_get, if_pos g, wsucc _ (by omega), wsucc _ (by omega)]
    · rw [if_neg (by simpa using g), Nat.add_zero] at I
      refine Ev.step (f := fun k => vernierlaw17_is.l1 k l v (((l.take i).count v : Nat) : Int) ((i + 1 : Nat) : Int)) (fun k => ?_) I
      simp only [vernierlaw17_is.l1]
      rw [if_pos (by omega), if_pos (by omega), rd_get, if_neg g, wsucc i (by omega)]
theorem is_l0 (l : List Int) (hm : l.length < 9223372036854775807) (R : Bool) (hR : R = decide (l.length ≤ 64 ∧ ∀ v : Nat, v < l.length → l.count (v : Int) = 1)) (d : Nat) : ∀ i : Nat, i + d = l.length → (∀ v : Nat, v < i → l.count (v : Int) = 1) →
    Ev (fun k => vernierlaw17_is.l0 k l i) R := by
  induction d with
  | zero =>
    intro i hi hf
    refine Ev.no (fun k => ?_)
    simp only [vernierlaw17_is.l0]
    rw [if_neg (by omega), hR]
    congr 1
    rw [decide_eq_decide]
    exact ⟨fun h => ⟨by omega, fun v hv => hf v (by omega)⟩, fun h => by have := h.1; omega⟩
  | succ d ih =>
    intro i hi hf
    refine Ev.step (f := fun k => vernierlaw17_is.l1 k l i 0 ((0 : Nat) : Int)) (fun k => ?_) ?_
    · simp only [vernierlaw17_is.l0]; rw [if_pos (by omega)]; rfl
    · have := is_l1 l hm (i : Int) R (fun h => by rw [wsucc _ (by omega)]; exact ih (i + 1) (by omega) (fun v hv => by by_cases e : v = i; rw [e]; exact h; exact hf v (by omega))) (fun h => by rw [hR, decide_eq_false_iff_not]; intro g; exact h (g.2 i (by omega))) l.length 0 (by omega)
      simpa using this
theorem okP_iff (l : List Int) : okP l ↔ (l.length ≤ 64 ∧ ∀ v : Nat, v < l.length → l.count (v : Int) = 1) := by
  constructor
  · rintro ⟨h1, h2⟩
    refine ⟨h1, fun v hv => ?_⟩
    have hmem := (pig l.length l h2.2.1 h2.2.2).2 rfl v (by omega) (by omega)
    have := List.count_pos_iff.2 hmem
    have hle : l.count (v : Int) ≤ 1 := List.nodup_iff_count.1 h2.2.1 _
    omega
  · rintro ⟨h1, h2⟩
    exact ⟨h1, isP_of_mem rfl (fun v hv => List.count_pos_iff.1 (by rw [h2 v hv]; omega))⟩
theorem is_ev (l : List Int) (hm : l.length < 9223372036854775807) : Ev (fun k => vernierlaw17_is.f k l) (decide (okP l)) := by
  have := is_l0 l hm _ rfl l.length 0 (by omega) (fun v hv => by omega)
  rw [show decide (okP l) = decide (l.length ≤ 64 ∧ ∀ v : Nat, v < l.length → l.count (v : Int) = 1) by rw [decide_eq_decide]; exact okP_iff l]
  exact this
-- what undoes a permutation, and one behind another one.
def comp (p q : List Int) : List Int := mk q.length (fun i => p.getD (q.getD i 0).toNat 0)
theorem comp_len (p q : List Int) : (comp p q).length = q.length := mk_len _ _
theorem comp_get (p q : List Int) {i : Nat} (hi : i < q.length) : (comp p q).getD i 0 = p.getD (q.getD i 0).toNat 0 := mk_get _ _ _ hi
theorem comp_P {n : Nat} {p q : List Int} (hp : isP n p) (hq : isP n q) : isP n (comp p q) := by
  have hl := hq.1
  refine isP_of (by rw [comp_len, hl]) (fun i hi => ?_) (fun i j hi hj e => ?_)
  · rw [comp_get p q (by omega)]
    have := isP_get hq hi
    exact isP_get hp (by omega)
  · rw [comp_get p q (by omega), comp_get p q (by omega)] at e
    have a := isP_get hq hi
    have b := isP_get hq hj
    have := isP_inj hp (by omega) (by omega) e
    exact isP_inj hq hi hj (by omega)
theorem pty_comp {n : Nat} {p : List Int} (hp : isP n p) (d : Nat) : ∀ q : List Int, isP n q → nf n q ≤ d → pty (comp p q) = (pty p ^^ pty q) := by
  have base : ∀ q : List Int, isP n q → (∀ t, t < n → q.getD t 0 = (t : Int)) → pty (comp p q) = (pty p ^^ pty q) := by
    intro q hq h
    have e : q = idL n := ext_getD hq.1 (idL_len n) (fun t ht => by rw [h t ht, idL_get ht])
    have e2 : comp p q = p := by
      have hl := hq.1
      refine ext_getD (n := n) (by rw [comp_len, hl]) hp.1 (fun t ht => ?_)
      rw [comp_get p q (by omega), h t ht, Int.toNat_natCast]
    rw [e2, e, idL_pty, Bool.xor_false]
  induction d with
  | zero =>
    intro q hq hd
    refine base q hq (fun t ht => ?_)
    apply Classical.byContradiction
    intro hne
    obtain ⟨K, hK⟩ := Int.eq_ofNat_of_zero_le (isP_get hq ht).1
    have := nf_sw hq ht hK (by omega)
    omega
  | succ d ih =>
    intro q hq hd
    by_cases h : ∀ t, t < n → q.getD t 0 = (t : Int)
    · exact base q hq h
    · obtain ⟨i, h⟩ := Classical.not_forall.1 h
      obtain ⟨hi, hne⟩ := Classical.not_imp.1 h
      obtain ⟨K, hK⟩ := Int.eq_ofNat_of_zero_le (isP_get hq hi).1
      obtain ⟨hKn, hnf⟩ := nf_sw hq hi hK (by omega)
      have hKi : i ≠ K := by omega
      have hl := hq.1
      have I := ih (sw q i K) (sw_P hq hi hKn) (by omega)
      have e : comp p (sw q i K) = sw (comp p q) i K := by
        refine ext_getD (n := n) (by rw [comp_len, sw_len, hl]) (by rw [sw_len, comp_len, hl]) (fun t ht => ?_)
        rw [comp_get _ _ (by rw [sw_len]; omega), sw_get q (by omega) (by omega), sw_get _ (by rw [comp_len]; omega) (by rw [comp_len]; omega), comp_get p q (by omega), comp_get p q (by omega), comp_get p q (by omega)]
        split
        · rfl
        · split <;> rfl
      rw [e, pty_sw (comp_P hp hq) hi hKn hKi, pty_sw hq hi hKn hKi] at I
      revert I
      cases pty (comp p q) <;> cases pty p <;> cases pty q <;> simp
theorem inverse_l {n : Nat} {p : List Int} (hp : isP n p) (hn : n ≤ 64) (R : List Int × Int) (d : Nat) : ∀ (i : Nat) (q : List Int), i + d = n → q.length = n → (∀ j, j < i → q.getD (p.getD j 0).toNat 0 = (j : Int)) →
    (∀ q' : List Int, q'.length = n → (∀ j, j < n → q'.getD (p.getD j 0).toNat 0 = (j : Int)) → R = (q', 0)) → Ev (fun k => perm_Inverse.l0 k q p n i) R := by
  induction d with
  | zero =>
    intro i q hi hq h hR
    rw [hR q hq (fun j hj => h j (by omega))]
    refine Ev.no (fun k => ?_)
    simp only [perm_Inverse.l0]; rw [if_neg (by omega)]
  | succ d ih =>
    intro i q hi hq h hR
    have hb := isP_get hp (show i < n by omega)
    have hl := hp.1
    refine Ev.step (f := fun k => perm_Inverse.l0 k (q.set (p.getD i 0).toNat (i : Int)) p n ((i + 1 : Nat) : Int)) (fun k => ?_) (ih (i + 1) _ (by omega) (by rw [List.length_set, hq]) (fun j hj => ?_) hR)
    · simp only [perm_Inverse.l0]
      rw [if_pos (by omega), if_pos (by omega), if_pos (by omega), rd_get, if_pos (by omega), if_pos (by omega), wsucc _ (by omega)]
    · rw [getD_set _ _ _ _ (by omega)]
      by_cases e : (p.getD j 0).toNat = (p.getD i 0).toNat
      · rw [if_pos e]
        have hj2 := isP_get hp (show j < n by omega)
        have := isP_inj hp (show j < n by omega) (show i < n by omega) (by omega)
        omega
      · rw [if_neg e]
        by_cases g : j = i
        · rw [g] at e; exact absurd rfl e
        · exact h j (by omega)
/-- It is one, and undoes the other one, both ways. -/
theorem undo_P {n : Nat} {p a : List Int} (hp : isP n p) (ha : a.length = n) (h : ∀ j, j < n → a.getD (p.getD j 0).toNat 0 = (j : Int)) : isP n a ∧ ∀ t, t < n → p.getD (a.getD t 0).toNat 0 = (t : Int) := by
  have key : ∀ t, t < n → ∃ j, j < n ∧ p.getD j 0 = (t : Int) ∧ a.getD t 0 = (j : Int) := fun t ht => by
    obtain ⟨j, hj, e⟩ := isP_sur hp ht
    refine ⟨j, hj, e, ?_⟩
    have := h j hj
    rw [e, Int.toNat_natCast] at this; exact this
  refine ⟨isP_of ha (fun t ht => ?_) (fun s t hs ht e => ?_), fun t ht => ?_⟩
  · obtain ⟨j, hj, _, e⟩ := key t ht
    rw [e]; omega
  · obtain ⟨j, hj, e1, e2⟩ := key s hs
    obtain ⟨i, hi, f1, f2⟩ := key t ht
    rw [e2, f2] at e
    have : j = i := by omega
    subst this
    rw [e1] at f1; omega
  · obtain ⟨j, hj, e1, e2⟩ := key t ht
    rw [e2, Int.toNat_natCast]; exact e1
theorem inverse_ok {p : List Int} (h : okP p) : ∃ a, Ev (fun k => perm_Inverse.f k p) (a, 0) ∧ isP p.length a ∧ (∀ j, j < p.length → a.getD (p.getD j 0).toNat 0 = (j : Int)) ∧ ∀ t, t < p.length → p.getD (a.getD t 0).toNat 0 = (t : Int) := by
  -- the list that is meant
  have hex : ∃ a : List Int, a.length = p.length ∧ ∀ j, j < p.length → a.getD (p.getD j 0).toNat 0 = (j : Int) := by
    classical
    refine ⟨mk p.length (fun t => ((if h : ∃ j, j < p.length ∧ p.getD j 0 = (t : Int) then Classical.choose h else 0 : Nat) : Int)), mk_len _ _, fun j hj => ?_⟩
    have hb := isP_get h.2 hj
    rw [mk_get _ _ _ (by omega)]
    have hx : ∃ i, i < p.length ∧ p.getD i 0 = (((p.getD j 0).toNat : Nat) : Int) := ⟨j, hj, by omega⟩
    rw [dif_pos hx]
    have hc := Classical.choose_spec hx
    have := isP_inj h.2 hc.1 hj (by rw [hc.2]; omega)
    rw [this]
  obtain ⟨a, ha, hj⟩ := hex
  obtain ⟨u1, u2⟩ := undo_P h.2 ha hj
  refine ⟨a, ?_, u1, hj, u2⟩
  unfold perm_Inverse.f
  rw [pcheck_eq, if_pos h]
  simp only [Option.bind_some, if_true]
  rw [clone_eq h.1]
  simp only [Option.bind_some]
  refine inverse_l h.2 h.1 (a, 0) p.length 0 p (by omega) rfl (fun j hj => by omega) (fun q' hq' hh => ?_)
  congr 1
  refine ext_getD ha hq' (fun t ht => ?_)
  obtain ⟨j, hj1, e⟩ := isP_sur h.2 ht
  have e1 := hj j hj1
  have e2 := hh j hj1
  rw [e, Int.toNat_natCast] at e1 e2
  rw [e1, e2]
theorem inverse_no {p : List Int} (h : ¬ okP p) : Ev (fun k => perm_Inverse.f k p) (([] : List Int), 9) := by
  unfold perm_Inverse.f
  rw [pcheck_eq, if_neg h]
  exact Ev.now _
theorem then_l {p q : List Int} (hq : ∀ i, i < q.length → 0 ≤ q.getD i 0 ∧ q.getD i 0 < (p.length : Int)) (hn : q.length ≤ 64) (d : Nat) : ∀ i : Nat, i + d = q.length → Ev (fun k => perm_Then2.l0 k p (mk i (fun i => p.getD (q.getD i 0).toNat 0)) q (q.length : Int) i) (comp p q, 0) := by
  induction d with
  | zero =>
    intro i hi
    obtain rfl : i = q.length := by omega
    refine Ev.no (fun k => ?_)
    simp only [perm_Then2.l0]; rw [if_neg (by omega)]; rfl
  | succ d ih =>
    intro i hi
    have hb := hq i (by omega)
    refine Ev.step (f := fun k => perm_Then2.l0 k p (mk (i + 1) (fun i => p.getD (q.getD i 0).toNat 0)) q (q.length : Int) ((i + 1 : Nat) : Int)) (fun k => ?_) (ih (i + 1) (by omega))
    simp only [perm_Then2.l0]
    rw [if_pos (by omega), if_pos (by omega), if_pos (by omega), rd_get, if_pos hb.1, if_pos hb.2, if_pos (by rw [mk_len]; omega), wsucc _ (by omega)]
    rw [show rd p (q.getD i 0) = p.getD (q.getD i 0).toNat 0 from rfl]
    rw [show mk i (fun i => p.getD (q.getD i 0).toNat 0) ++ [p.getD (q.getD i 0).toNat 0] = mk (i + 1) (fun i => p.getD (q.getD i 0).toNat 0) by unfold mk; rw [List.range_succ, List.map_append]; rfl]
def thenV (p q : List Int) : List Int × Int := if okP p then (if okP q then (if p.length = q.length then (comp p q, 0) else ([], 11)) else ([], 9)) else ([], 9)
theorem then_ev (p q : List Int) : Ev (fun k => perm_Then.f k p q) (thenV p q) := by
  unfold perm_Then.f thenV
  rw [pcheck_eq, pcheck_eq]
  by_cases h1 : okP p
  · simp only [if_pos h1, Option.bind_some, if_true]
    by_cases h2 : okP q
    · simp only [if_pos h2, if_true]
      unfold perm_Then2.f
      by_cases h3 : p.length = q.length
      · simp only [if_pos h3, if_pos (show (p.length : Int) = (q.length : Int) by omega)]
        exact then_l (fun i hi => by have := isP_get h2.2 hi; omega) h2.1 q.length 0 (by omega)
      · simp only [if_neg h3, if_neg (show ¬ (p.length : Int) = (q.length : Int) by omega)]; exact Ev.now _
    · simp only [if_neg h2, if_neg (show ¬ (9 : Int) = 0 by decide)]; exact Ev.now _
  · simp only [if_neg h1, Option.bind_some, if_neg (show ¬ (9 : Int) = 0 by decide)]; exact Ev.now _
theorem okP_comp {p q : List Int} (hp : okP p) (hq : okP q) (h : p.length = q.length) : okP (comp p q) := by
  refine ⟨by rw [comp_len]; exact hq.1, ?_⟩
  rw [comp_len]
  have := hp.2
  rw [h] at this
  exact comp_P this hq.2
theorem alive17 : Ev (fun k => vernierlaw17_alive.f k) true := Ev.of vernierlaw17_alive.mono (k := 20) (by decide +kernel)
theorem tells_l2 {p q a : List Int} (_h1 : okP p) (h2 : okP q) (h3 : p.length = q.length) (ha : a.length = p.length) (d : Nat) : ∀ i : Nat, i + d = q.length → Ev (fun k => vernierlaw17_PermTells.l2 k p q a (comp p q) 0 i) true := by
  have hc := comp_len p q
  have hq := h2.1
  induction d with
  | zero =>
    intro i hi
    refine Ev.no (fun k => ?_)
    simp only [vernierlaw17_PermTells.l2]
    rw [if_neg (by omega), if_pos trivial, if_pos (by omega), ha, beq_self_eq_true]
  | succ d ih =>
    intro i hi
    have hb := isP_get h2.2 (show i < q.length by omega)
    refine Ev.step (f := fun k => vernierlaw17_PermTells.l2 k p q a (comp p q) 0 ((i + 1 : Nat) : Int)) (fun k => ?_) (ih (i + 1) (by omega))
    simp only [vernierlaw17_PermTells.l2]
    rw [if_pos (by omega), if_pos (by omega), if_pos (by omega), rd_get, if_pos hb.1, if_pos (by omega), rd_get, comp_get p q (by omega), if_pos (show p.getD (q.getD i 0).toNat 0 = rd p (q.getD i 0) from rfl), wsucc _ (by omega)]
theorem tells_j6 (p q a : List Int) (ha : okP p → a.length = p.length) (hp : p.length < 9223372036854775807) (hq : q.length < 9223372036854775807) :
    Ev (fun k => (vernierlaw17_is.f k p).bind fun t149 => (if t149 = true then ((vernierlaw17_is.f k q).bind fun t150 => (vernierlaw17_PermTells.j6 k p q a (thenV p q).1 (thenV p q).2 (!t150))) else (vernierlaw17_PermTells.j6 k p q a (thenV p q).1 (thenV p q).2 true))) true := by
  refine Ev.bind (is_ev p hp) ?_
  have bad : (thenV p q).1 = [] → (thenV p q).2 = 9 → Ev (fun k => vernierlaw17_PermTells.j6 k p q a (thenV p q).1 (thenV p q).2 true) true := fun e1 e2 => by
    rw [e1, e2]
    refine Ev.no (fun k => ?_)
    simp only [vernierlaw17_PermTells.j6]; rw [if_pos trivial, if_pos trivial]; rfl
  by_cases h1 : okP p
  · rw [decide_eq_true h1]
    simp only [if_true]
    refine Ev.bind (is_ev q hq) ?_
    by_cases h2 : okP q
    · rw [decide_eq_true h2]
      unfold thenV
      simp only [if_pos h1, if_pos h2]
      by_cases h3 : p.length = q.length
      · simp only [if_pos h3]
        refine Ev.step (f := fun k => vernierlaw17_PermTells.l2 k p q a (comp p q) 0 ((0 : Nat) : Int)) (fun k => ?_) (tells_l2 h1 h2 h3 (ha h1) q.length 0 (by omega))
        simp only [vernierlaw17_PermTells.j6]
        rw [if_neg (by decide), if_pos (by omega), if_pos (by rw [comp_len])]; rfl
      · simp only [if_neg h3]
        refine Ev.no (fun k => ?_)
        simp only [vernierlaw17_PermTells.j6]
        rw [if_neg (by decide), if_neg (by omega), if_pos trivial]; rfl
    · rw [decide_eq_false h2]
      exact bad (by unfold thenV; rw [if_pos h1, if_neg h2]) (by unfold thenV; rw [if_pos h1, if_neg h2])
  · rw [decide_eq_false h1]
    exact bad (by unfold thenV; rw [if_neg h1]) (by unfold thenV; rw [if_neg h1])
theorem tells_l1 (p q a : List Int) (ha : okP p → a.length = p.length) (hn : ¬ okP p → a = []) (hu : okP p → ∀ j, j < p.length → a.getD (p.getD j 0).toNat 0 = (j : Int)) (hp : p.length < 9223372036854775807) (hq : q.length < 9223372036854775807) (d : Nat) : ∀ i : Nat, i + d = a.length →
    Ev (fun k => vernierlaw17_PermTells.l1 k p q a (thenV p q).1 (thenV p q).2 i) true := by
  induction d with
  | zero =>
    intro i hi
    refine Ev.step (fun k => ?_) (tells_j6 p q a ha hp hq)
    simp only [vernierlaw17_PermTells.l1]; rw [if_neg (by omega)]
  | succ d ih =>
    intro i hi
    by_cases h1 : okP p
    · have hl := ha h1
      have hb := isP_get h1.2 (show i < p.length by omega)
      have h64 := h1.1
      refine Ev.step (f := fun k => vernierlaw17_PermTells.l1 k p q a (thenV p q).1 (thenV p q).2 ((i + 1 : Nat) : Int)) (fun k => ?_) (ih (i + 1) (by omega))
      simp only [vernierlaw17_PermTells.l1]
      rw [if_pos (by omega), if_pos (by omega), if_pos (by omega), rd_get, if_neg (by omega), if_pos hb.1, if_pos (by omega), if_pos (show rd a (p.getD i 0) = (i : Int) from hu h1 i (by omega)), wsucc _ (by omega)]
    · rw [hn h1] at hi
      simp at hi
theorem tells_l0 (p q a id : List Int) (ha : okP p → a.length = p.length) (hn : ¬ okP p → a = []) (hu : okP p → ∀ j, j < p.length → a.getD (p.getD j 0).toNat 0 = (j : Int)) (hp : p.length < 9223372036854775807) (hq : q.length < 9223372036854775807) (hid : id.length ≤ 64) (hi : ∀ i, i < id.length → id.getD i 0 = (i : Int)) (d : Nat) : ∀ i : Nat, i + d = id.length →
    Ev (fun k => vernierlaw17_PermTells.l0 k p q a (thenV p q).1 (thenV p q).2 id i) true := by
  induction d with
  | zero =>
    intro i hii
    have hle : ¬ (a.length : Int) > (p.length : Int) := by
      by_cases h1 : okP p
      · rw [ha h1]; omega
      · rw [hn h1]; simp
    have J : Ev (fun k => vernierlaw17_PermTells.j4 k p q a (thenV p q).1 (thenV p q).2 false) true := by
      refine Ev.step (f := fun k => vernierlaw17_PermTells.l1 k p q a (thenV p q).1 (thenV p q).2 ((0 : Nat) : Int)) (fun k => ?_) (tells_l1 p q a ha hn hu hp hq a.length 0 (by omega))
      simp only [vernierlaw17_PermTells.j4]; rw [if_neg (by decide)]; rfl
    refine Ev.step (f := fun k => (vernierlaw17_is.f k p).bind fun t145 => (if t145 = true then (vernierlaw17_PermTells.j4 k p q a (thenV p q).1 (thenV p q).2 false) else (vernierlaw17_PermTells.j4 k p q a (thenV p q).1 (thenV p q).2 (decide ((a.length : Int) > 0))))) (fun k => ?_) (Ev.bind (is_ev p hp) ?_)
    · simp only [vernierlaw17_PermTells.l0]; rw [if_neg (by omega), if_neg hle]
    · by_cases h1 : okP p
      · rw [decide_eq_true h1]; exact J
      · rw [decide_eq_false h1, show decide ((a.length : Int) > 0) = false by rw [hn h1]; rfl]; exact J
  | succ d ih =>
    intro i hii
    refine Ev.step (f := fun k => vernierlaw17_PermTells.l0 k p q a (thenV p q).1 (thenV p q).2 id ((i + 1 : Nat) : Int)) (fun k => ?_) (ih (i + 1) (by omega))
    simp only [vernierlaw17_PermTells.l0]
    rw [if_pos (by omega), if_pos (by omega), rd_get, if_pos (hi i (by omega)), wsucc _ (by omega)]
theorem PermTells_pure (p q : List Int) (n : Int) (hp : p.length < 9223372036854775807) (hq : q.length < 9223372036854775807) : Ev (fun k => vernierlaw17_PermTells.f k p q n) true := by
  unfold vernierlaw17_PermTells.f
  refine Ev.bind alive17 ?_
  simp only [if_true]
  have main : ∀ (a : List Int) (e : Int), (okP p → a.length = p.length) → (¬ okP p → a = []) → (okP p → ∀ j, j < p.length → a.getD (p.getD j 0).toNat 0 = (j : Int)) → e = (if okP p then 0 else 9) → Ev (fun k => perm_Inverse.f k p) (a, e) →
      Ev (fun k => (perm_Inverse.f k p).bind fun bt129 => ((perm_Then.f k p q).bind fun bt133 => ((perm_Identity.f k n).bind fun t137 => ((perm_Check.f p).bind fun t140 => ((vernierlaw17_is.f k p).bind fun t141 => (if ((t140 == 0) != t141) = true then (vernierlaw17_PermTells.j0 k p q n bt129.1 bt133.1 bt133.2 t137 true) else ((vernierlaw17_is.f k p).bind fun t142 => (if ((bt129.2 == 0) != t142) = true then (vernierlaw17_PermTells.j0 k p q n bt129.1 bt133.1 bt133.2 t137 true) else ((vernierlaw17_is.f k p).bind fun t143 => (if t143 = true then (vernierlaw17_PermTells.j0 k p q n bt129.1 bt133.1 bt133.2 t137 false) else (vernierlaw17_PermTells.j0 k p q n bt129.1 bt133.1 bt133.2 t137 (bt129.2 != 9)))))))))))) true := by
    intro a e ha hn hu he hinv
    refine Ev.bind hinv (Ev.bind (then_ev p q) (Ev.bind (identity_ev n) ?_))
    rw [pcheck_eq, ← he]
    simp only [Option.bind_some]
    have hz : (e == 0) = decide (okP p) := by
      by_cases h : okP p
      · rw [he, if_pos h, decide_eq_true h]; rfl
      · rw [he, if_neg h, decide_eq_false h]; rfl
    have hne : (e != 9) = decide (okP p) := by
      by_cases h : okP p
      · rw [he, if_pos h, decide_eq_true h]; rfl
      · rw [he, if_neg h, decide_eq_false h]; rfl
    rw [hz, hne]
    have I := is_ev p hp
    refine Ev.bind I ?_
    simp only [bne_self_eq_false, if_neg (show ¬ (false = true) by decide)]
    refine Ev.bind I ?_
    simp only [bne_self_eq_false, if_neg (show ¬ (false = true) by decide)]
    refine Ev.bind I ?_
    have J : Ev (fun k => vernierlaw17_PermTells.j0 k p q n a (thenV p q).1 (thenV p q).2 (if 0 ≤ n ∧ n ≤ 64 then idL n.toNat else []) false) true := by
      by_cases g : 0 ≤ n ∧ n ≤ 64
      · rw [if_pos g]
        have L := tells_l0 p q a (idL n.toNat) ha hn hu hp hq (by rw [idL_len]; omega) (fun i hi => by rw [idL_len] at hi; exact idL_get hi) (idL n.toNat).length 0 (by omega)
        refine Ev.step (f := fun k => vernierlaw17_PermTells.j1 k p q n a (thenV p q).1 (thenV p q).2 (idL n.toNat) false) (fun k => ?_) (Ev.step (f := fun k => vernierlaw17_PermTells.j2 k p q n a (thenV p q).1 (thenV p q).2 (idL n.toNat)) (fun k => ?_) (Ev.step (f := fun k => vernierlaw17_PermTells.l0 k p q a (thenV p q).1 (thenV p q).2 (idL n.toNat) ((0 : Nat) : Int)) (fun k => ?_) L))
        · simp only [vernierlaw17_PermTells.j0]; rw [if_neg (by decide), if_neg (by omega), decide_eq_false (by omega)]
        · simp only [vernierlaw17_PermTells.j1]; rw [if_neg (by decide)]
        · simp only [vernierlaw17_PermTells.j2]; rw [if_pos (by rw [idL_len]; omega)]; rfl
      · rw [if_neg g]
        have L := tells_l0 p q a [] ha hn hu hp hq (by simp) (fun i hi => by simp at hi) 0 0 rfl
        refine Ev.step (f := fun k => vernierlaw17_PermTells.j1 k p q n a (thenV p q).1 (thenV p q).2 [] true) (fun k => ?_) (Ev.step (f := fun k => vernierlaw17_PermTells.j2 k p q 0 a (thenV p q).1 (thenV p q).2 []) (fun k => ?_) (Ev.step (f := fun k => vernierlaw17_PermTells.l0 k p q a (thenV p q).1 (thenV p q).2 [] ((0 : Nat) : Int)) (fun k => ?_) L))
        · simp only [vernierlaw17_PermTells.j0]; rw [if_neg (by decide)]
          by_cases h : n < 0
          · rw [if_pos h]
          · rw [if_neg h, decide_eq_true (by omega)]
        · simp only [vernierlaw17_PermTells.j1]; rw [if_pos trivial]
        · simp only [vernierlaw17_PermTells.j2]; rw [if_pos (by rfl)]; rfl
    by_cases h : okP p
    · rw [decide_eq_true h]; exact J
    · rw [decide_eq_false h]; exact J
  by_cases h1 : okP p
  · obtain ⟨a, hi, u1, u2, u3⟩ := inverse_ok h1
    exact main a 0 (fun _ => u1.1) (fun h => absurd h1 h) (fun _ => u2) (by rw [if_pos h1]) hi
  · exact main [] 9 (fun h => absurd h h1) (fun _ => rfl) (fun h => absurd h h1) (by rw [if_neg h1]) (inverse_no h1)
theorem PermTells_walk (W : World) (A : Option Addr) (c : Nat) (l : List Int) (hr : Kd.C (Kd.int .i64) W A l.length l) (hc : l.length ≤ c) (_hm : l.length ≤ maxLen) (_hw : ∀ x ∈ l, (Lit.int .i64 x).wf = true) (hy : l.length * 8 ≤ 140737488351232)
    (A' : Option Addr) (c' : Nat) (l' : List Int) (hr' : Kd.C (Kd.int .i64) W A' l'.length l') (hc' : l'.length ≤ c') (_hm' : l'.length ≤ maxLen) (_hw' : ∀ x ∈ l', (Lit.int .i64 x).wf = true) (hy' : l'.length * 8 ≤ 140737488351232) (n : Int) (_wn : (Lit.int .i64 n).wf = true) :
    Calls Try.prog 4 #[.slice A l.length c, .slice A' l'.length c', .int .i64 n] W fun e w' => e = .returned (.bool true) ∧ Below W.heap.size W w' := by
  obtain ⟨k, h⟩ := (PermTells_pure l l' n (by omega) (by omega)).rounds
  exact (vernierlaw17_PermTells.calls k A c l A' c' l' n true W hr hc hr' hc' h).mono fun e w' h => h
end Go.Proofs.Ytceghmceoliplaa.Pure
