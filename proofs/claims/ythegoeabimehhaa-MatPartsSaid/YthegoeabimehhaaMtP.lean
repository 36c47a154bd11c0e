/- MatParts: what Check, Cut, Paste and Same tell, in plain lists. -/
import Derived.Test.YthegoeabimehhaaProg
import Derived.Below
import Derived.Deep.Draws
import Derived.Deep.AppendLies
import Derived.Maps.AppendAt
import Derived.OwnWalk
import Derived.Laws.BytesArg
import Derived.Laws.MakeOwn
import Derived.Laws.OwnMore
import Derived.Deep.OwnRows
import Derived.Tactics
import Derived.Lib.ConvBytes
import Derived.Laws.Slices
import Derived.WalkKit
import Derived.KernelRfl
import Derived.RowKit3
import Derived.Deep.LoopGhost
import Derived.Deep.QuietTactic
import Derived.BigQuiet
import Derived.WideLaws
import Derived.Deep.DeepCutAuto
import Derived.Deep.CutBlock
import Derived.Deep.RegionHeld3
import Derived.Laws.Rows
import Derived.Lib.AppendStr
import Derived.ArgAppend
import Derived.Laws.IdiomCopy
import Derived.OrdersHeld
import Derived.Laws.BitsLemmas
import Derived.RowKit
import Derived.Test.YthegoeabimehhaaWWords
import Derived.Test.YthegoeabimehhaaWLast
import Derived.Test.YthegoeabimehhaaWTab
import Derived.Test.YthegoeabimehhaaWFour
import Derived.Test.YthegoeabimehhaaWQPut
import Derived.Test.YthegoeabimehhaaWApart
import Derived.Test.YthegoeabimehhaaWArr
import Derived.Test.YthegoeabimehhaaWZeros
import Derived.Test.YthegoeabimehhaaWFoot
import Derived.Test.YthegoeabimehhaaWKept
import Derived.Test.YthegoeabimehhaaWShare
import Derived.Test.YthegoeabimehhaaWN
import Derived.Test.YthegoeabimehhaaWFootNe
import Derived.Test.YthegoeabimehhaaWAt
import Derived.Test.YthegoeabimehhaaWEqStruct
import Derived.Test.YthegoeabimehhaaWRepsOne
import Derived.Test.YthegoeabimehhaaWInv
import Derived.Test.YthegoeabimehhaaWInvWords
import Derived.Test.YthegoeabimehhaaWGuard
import Derived.Test.YthegoeabimehhaaWNEv
import Derived.Test.YthegoeabimehhaaWMore
import Derived.Test.YthegoeabimehhaaPMatPartsx5
import Derived.Test.YthegoeabimehhaaPMatPartsx6
import Derived.Test.YthegoeabimehhaaPMatPartsx7
namespace Go.Proofs.Ythegoeabimehhaa.Mt
open Go.RowKit Go.Proofs.YthegoeabimehhaaW.PrintWords Go.Proofs.YthegoeabimehhaaW.PrintLast Go.Proofs.YthegoeabimehhaaW.PrintMore
attribute [local go_sem] max2_int min2_int max_two min_two max_three min_three max_four min_four
set_option linter.unusedVariables false
set_option linter.unusedSimpArgs false
open Go.Proofs.Ythegoeabimehhaa.PMatParts
theorem splice_at (P b : List Int) (A k off x : Nat) (hA : A + k ≤ P.length) (hb : off + k ≤ b.length) : (P.take A ++ (b.drop off).take k ++ P.drop (A + k)).getD x 0 = if A ≤ x ∧ x < A + k then b.getD (off + (x - A)) 0 else P.getD x 0 := by
  have l1 : (P.take A).length = A := by rw [List.length_take]; omega
  have l2 : ((b.drop off).take k).length = k := by rw [List.length_take, List.length_drop]; omega
  simp only [List.getD_eq_getElem?_getD]
  rcases Nat.lt_or_ge x A with h | h
  · rw [if_neg (by omega), List.append_assoc, List.getElem?_append_left (by omega), List.getElem?_take_of_lt h]
  · rcases Nat.lt_or_ge x (A + k) with h2 | h2
    · rw [if_pos ⟨h, h2⟩, List.getElem?_append_left (by rw [List.length_append]; omega), List.getElem?_append_right (by omega), l1, List.getElem?_take_of_lt (by omega), List.getElem?_drop]
    · rw [if_neg (by omega), List.getElem?_append_right (by rw [List.length_append]; omega), List.length_append, l1, l2, List.getElem?_drop, show A + k + (x - (A + k)) = x by omega]
theorem pasteRows_at (l : List Int) (n n2 : Nat) (b : List Int) (i j : Nat) (hj : j + n2 ≤ n) : ∀ t, (∀ q, q < t → (i + q) * n + j + n2 ≤ l.length ∧ q * n2 + n2 ≤ b.length) → ∀ r s, s < n → (matPasteRows l n n2 b i j t).getD (r * n + s) 0 = if i ≤ r ∧ r < i + t ∧ j ≤ s ∧ s < j + n2 then b.getD ((r - i) * n2 + (s - j)) 0 else l.getD (r * n + s) 0
  | 0, _, r, s, _ => by rw [if_neg (by omega)]; rfl
  | t + 1, h, r, s, hs => by
    have ih := pasteRows_at l n n2 b i j hj t (fun q hq => h q (by omega)) r s hs
    have hl := pasteRows_len l n n2 b i j t (fun q hq => h q (by omega))
    have h1 := h t (by omega)
    simp only [matPasteRows]
    rw [splice_at _ _ _ _ _ _ (by omega) (by omega), ih]
    rcases Nat.lt_trichotomy r (i + t) with a | a | a
    · have e := Nat.mul_le_mul_right n (show r + 1 ≤ i + t from a)
      rw [Nat.add_mul, Nat.one_mul] at e
      rw [if_neg (by omega)]
      by_cases c : i ≤ r ∧ j ≤ s ∧ s < j + n2
      · rw [if_pos (by omega), if_pos (by omega)]
      · rw [if_neg (by omega), if_neg (by omega)]
    · subst a
      by_cases c : j ≤ s ∧ s < j + n2
      · rw [if_pos (by omega), if_pos (by omega), show i + t - i = t by omega, show (i + t) * n + s - ((i + t) * n + j) = s - j by omega]
      · rw [if_neg (by omega), if_neg (by omega), if_neg (by omega)]
    · have e := Nat.mul_le_mul_right n (show i + t + 1 ≤ r from a)
      rw [Nat.add_mul, Nat.one_mul] at e
      rw [if_neg (by omega), if_neg (by omega), if_neg (by omega)]
theorem side_of {M : Nat} (h : 1 ≤ M ∧ M ≤ 64) : shape_side.f (M : Int) = some true := by
  unfold shape_side.f
  rw [if_pos (by omega), decide_eq_true (by omega)]
theorem check_of {M N : Nat} {l : List Int} (hM : 1 ≤ M ∧ M ≤ 64) (hN : 1 ≤ N ∧ N ≤ 64) (hl : l.length = M * N) : shape_Check.f M N l = some 0 := by
  have h1 := Nat.mul_le_mul hM.2 hN.2
  unfold shape_Check.f
  rw [side_of hM, Option.bind_some, if_pos rfl, side_of hN, Option.bind_some, if_pos rfl, if_pos (by rw [hl, ← Int.natCast_mul]; unfold wrap64; omega)]
theorem side_tot (x : Int) : ∃ b, shape_side.f x = some b := by
  unfold shape_side.f
  split
  · exact ⟨_, rfl⟩
  · exact ⟨_, rfl⟩
theorem check_tot (m n : Int) (l : List Int) : ∃ t, shape_Check.f m n l = some t ∧ (t = 0 ∨ t = 11) := by
  obtain ⟨b, hb⟩ := side_tot m
  obtain ⟨b2, hb2⟩ := side_tot n
  unfold shape_Check.f
  rw [hb, Option.bind_some, hb2, Option.bind_some]
  split
  · split
    · split
      · exact ⟨_, rfl, .inl rfl⟩
      · exact ⟨_, rfl, .inr rfl⟩
    · exact ⟨_, rfl, .inr rfl⟩
  · exact ⟨_, rfl, .inr rfl⟩
def MpOut2 (M N : Nat) (i j m2 n2 : Int) : Prop := i < 0 ∨ j < 0 ∨ i > (M : Int) ∨ j > (N : Int) ∨ m2 > (M : Int) - i ∨ n2 > (N : Int) - j
instance (M N : Nat) (i j m2 n2 : Int) : Decidable (MpOut2 M N i j m2 n2) := by unfold MpOut2; infer_instance
theorem mp_within {i r m : Int} (hm : 0 ≤ m ∧ m ≤ 64) : mat_within.f i r m = some (decide (0 ≤ i ∧ 1 ≤ r ∧ i ≤ m ∧ r ≤ m - i)) := by
  unfold mat_within.f
  by_cases a : i ≥ 0
  · rw [if_pos a]
    by_cases b : r ≥ 1
    · rw [if_pos b]
      by_cases c : i ≤ m
      · rw [if_pos c]
        congr 1
        rw [decide_eq_decide]
        unfold wrap64
        omega
      · rw [if_neg c, decide_eq_false (by omega)]
    · rw [if_neg b, decide_eq_false (by omega)]
  · rw [if_neg a, decide_eq_false (by omega)]
theorem cut_tot (m n : Int) (l : List Int) (i j rows cols : Int) : ∃ q1 q2 lc ec, mat_Cut.f m n l i j rows cols = some (q1, q2, lc, ec) ∧ (shape_Check.f m n l ≠ some 0 → lc = [] ∧ ec = 11) := by
  obtain ⟨t, ht, h⟩ := check_tot m n l
  unfold mat_Cut.f
  rw [ht, Option.bind_some]
  rcases h with rfl | rfl
  · obtain ⟨M, N, rfl, rfl, hM1, hM2, hN1, hN2, hl⟩ := check_ok ht
    rw [if_pos rfl, mp_within (by omega), Option.bind_some, mp_within (by omega)]
    split
    · rw [Option.bind_some]
      split
      · exact ⟨_, _, _, _, rfl, fun k => absurd rfl k⟩
      · exact ⟨_, _, _, _, rfl, fun k => absurd rfl k⟩
    · exact ⟨_, _, _, _, rfl, fun k => absurd rfl k⟩
  · rw [if_neg (by omega)]
    exact ⟨_, _, _, _, rfl, fun _ => ⟨rfl, rfl⟩⟩
theorem paste_tot (m n : Int) (l : List Int) (m2 n2 : Int) (l2 : List Int) (i j : Int) : ∃ p1 p2 lp ep, mat_Paste.f m n l m2 n2 l2 i j = some (p1, p2, lp, ep) ∧ (shape_Check.f m n l ≠ some 0 → lp = [] ∧ ep = 11) := by
  obtain ⟨t, ht, h⟩ := check_tot m n l
  obtain ⟨t2, ht2, h2⟩ := check_tot m2 n2 l2
  unfold mat_Paste.f
  rw [ht, Option.bind_some]
  rcases h with rfl | rfl
  · obtain ⟨M, N, rfl, rfl, hM1, hM2, hN1, hN2, hl⟩ := check_ok ht
    rw [if_pos rfl, ht2, Option.bind_some]
    split
    · rw [mp_within (by omega), Option.bind_some, mp_within (by omega)]
      split
      · rw [Option.bind_some]
        split
        · exact ⟨_, _, _, _, rfl, fun k => absurd rfl k⟩
        · exact ⟨_, _, _, _, rfl, fun k => absurd rfl k⟩
      · exact ⟨_, _, _, _, rfl, fun k => absurd rfl k⟩
    · exact ⟨_, _, _, _, rfl, fun k => absurd rfl k⟩
  · rw [if_neg (by omega)]
    exact ⟨_, _, _, _, rfl, fun _ => ⟨rfl, rfl⟩⟩
/-- what a paste tells, once the matrix is one -/
theorem paste_cases {M N : Nat} {l : List Int} {m2 n2 : Int} {l2 lp : List Int} {i j p1 p2 ep t2 : Int} (ht : shape_Check.f M N l = some 0) (hM : M ≤ 64) (hN : N ≤ 64) (ht2 : shape_Check.f m2 n2 l2 = some t2) (pa : mat_Paste.f M N l m2 n2 l2 i j = some (p1, p2, lp, ep)) :
    (t2 ≠ 0 ∧ lp = [] ∧ ep = 11) ∨ (t2 = 0 ∧ MpOut2 M N i j m2 n2 ∧ lp = [] ∧ ep = 4) ∨ (t2 = 0 ∧ ¬ MpOut2 M N i j m2 n2 ∧ ∃ I J M2 N2 : Nat, i = I ∧ j = J ∧ m2 = M2 ∧ n2 = N2 ∧ 1 ≤ M2 ∧ 1 ≤ N2 ∧ I + M2 ≤ M ∧ J + N2 ≤ N ∧ l2.length = M2 * N2 ∧ ep = 0 ∧ lp = matPasteRows l N N2 l2 I J M2) := by
  have h2 : t2 = 0 ∨ t2 = 11 := by
    obtain ⟨t, h, k⟩ := check_tot m2 n2 l2
    rw [ht2] at h
    cases h
    exact k
  unfold mat_Paste.f at pa
  rw [ht, Option.bind_some, if_pos rfl, ht2, Option.bind_some] at pa
  rcases h2 with rfl | rfl
  · obtain ⟨M2, N2, rfl, rfl, hM1, hM2, hN1, hN2, hl⟩ := check_ok ht2
    rw [if_pos rfl, mp_within (by omega), Option.bind_some] at pa
    by_cases h1 : 0 ≤ i ∧ 1 ≤ (M2 : Int) ∧ i ≤ (M : Int) ∧ (M2 : Int) ≤ (M : Int) - i
    · rw [if_pos (decide_eq_true h1), mp_within (by omega), Option.bind_some] at pa
      by_cases h2 : 0 ≤ j ∧ 1 ≤ (N2 : Int) ∧ j ≤ (N : Int) ∧ (N2 : Int) ≤ (N : Int) - j
      · rw [if_pos (decide_eq_true h2)] at pa
        simp only [Option.some.injEq, Prod.mk.injEq] at pa
        obtain ⟨rfl, rfl, rfl, rfl⟩ := pa
        exact .inr (.inr ⟨rfl, by unfold MpOut2; omega, i.toNat, j.toNat, M2, N2, by omega, by omega, rfl, rfl, by omega, by omega, by omega, by omega, hl, rfl, rfl⟩)
      · rw [if_neg (by simpa using h2)] at pa
        simp only [Option.some.injEq, Prod.mk.injEq] at pa
        exact .inr (.inl ⟨rfl, by unfold MpOut2; omega, pa.2.2.1.symm, pa.2.2.2.symm⟩)
    · rw [if_neg (by simpa using h1)] at pa
      simp only [Option.some.injEq, Prod.mk.injEq] at pa
      exact .inr (.inl ⟨rfl, by unfold MpOut2; omega, pa.2.2.1.symm, pa.2.2.2.symm⟩)
  · rw [if_neg (by omega)] at pa
    simp only [Option.some.injEq, Prod.mk.injEq] at pa
    exact .inl ⟨by omega, pa.2.2.1.symm, pa.2.2.2.symm⟩
theorem equal_self (l : List Int) (hl : l.length ≤ 4096) : ∀ d i : Nat, i + d = l.length → slices_Equal_uint64_uint64.l0 (d + 1) l l (l.length : Int) (i : Int) = some true
  | 0, i, h => by
    unfold slices_Equal_uint64_uint64.l0
    rw [if_neg (by omega)]
  | d + 1, i, h => by
    have ih := equal_self l hl d (i + 1) (by omega)
    unfold slices_Equal_uint64_uint64.l0
    rw [if_pos (by omega), if_pos (by omega), if_pos (by omega), if_pos (by omega), if_pos rfl, show wrap64 ((i : Int) + 1) = ((i + 1 : Nat) : Int) by unfold wrap64; omega]
    exact ih
theorem same_self (M N : Nat) (l : List Int) (hl : l.length ≤ 4096) : shape_Same.f (l.length + 1) M N l M N l = some true := by
  unfold shape_Same.f slices_Equal_uint64_uint64.f
  have h := equal_self l hl l.length 0 (by omega)
  rw [Int.natCast_zero] at h
  rw [if_pos rfl, if_pos rfl, if_pos rfl, h, Option.bind_some]
def MpA (w : World) (m n m2 n2 : Int) (u v : Value) (W : World) : Prop := Below w.heap.size w W ∧ MatBox W w.heap.size m n u ∧ MatBox W (w.heap.size + 1) m2 n2 v
theorem MpA.below {w : World} {m n m2 n2 : Int} {u v : Value} {W W' : World} (h : MpA w m n m2 n2 u v W) (k : Below W.heap.size W W') : MpA w m n m2 n2 u v W' := ⟨below_then h.1 h.1.size k, blk_below h.2.1 k, blk_below h.2.2 k⟩
theorem MpA.start (w : World) (m n m2 n2 : Int) (u v : Value) : MpA w m n m2 n2 u v ((w.alloc (.cells #[.int .i64 m, .int .i64 n, u] 24)).alloc (.cells #[.int .i64 m2, .int .i64 n2, v] 24)) := by
  refine ⟨below_alloc (below_alloc (Below.refl _ w) _) _, blk_below (blk_new w _) (below_alloc (Below.refl _ _) _), ?_⟩
  have h := blk_new (w.alloc (.cells #[.int .i64 m, .int .i64 n, u] 24)) (.cells #[.int .i64 m2, .int .i64 n2, v] 24)
  rw [World.size_alloc] at h
  exact h
theorem MpA.put {w : World} {m n m2 n2 : Int} {u v : Value} {W : World} {b : Nat} (h : MpA w m n m2 n2 u v W) (hb : w.heap.size + 1 < b) (i : Nat) (x : Value) : MpA w m n m2 n2 u v (W.setCell ⟨b, i, none⟩ x) :=
  ⟨h.1.setCell (p := ⟨b, i, none⟩) (show w.heap.size ≤ b by omega) _, (Below.heap_setCell W _ _ _ (show w.heap.size ≠ b by omega)).trans h.2.1, (Below.heap_setCell W _ _ _ (show w.heap.size + 1 ≠ b by omega)).trans h.2.2⟩
/-- a matrix that was made: its box, and its row -/
def MpB (w : World) (b : Nat) (m n : Int) (x : Value) (xs : List Int) (W : World) : Prop := MatBox W b m n x ∧ Kd.R (Kd.int .u64) 30 W w.heap.size (fun _ => True) x xs ∧ w.heap.size + 1 < b
theorem MpB.below {w : World} {b : Nat} {m n : Int} {x : Value} {xs : List Int} {W W' : World} (h : MpB w b m n x xs W) (k : Below W.heap.size W W') : MpB w b m n x xs W' := ⟨blk_below h.1 k, Kd.R_below h.2.1 k, h.2.2⟩
/-- the box that is made and filled behind a call -/
theorem mpPut_box {w W : World} {m n : Int} {x : Value} {xs : List Int} (hR : Kd.R (Kd.int .u64) 30 W w.heap.size (fun _ => True) x xs) (hb : w.heap.size + 1 < W.heap.size) : MpB w W.heap.size m n x xs (W.alloc (.cells #[.int .i64 m, .int .i64 n, x] 24)) :=
  ⟨blk_new W _, Kd.R_below hR (below_alloc (Below.refl _ W) _), hb⟩
def MpOut (M N : Nat) (i j r c : Int) : Prop := i < 0 ∨ j < 0 ∨ r < 1 ∨ c < 1 ∨ i > (M : Int) ∨ j > (N : Int) ∨ r > (M : Int) - i ∨ c > (N : Int) - j
instance (M N : Nat) (i j r c : Int) : Decidable (MpOut M N i j r c) := by unfold MpOut; infer_instance
theorem within_f {i r m : Int} (hm : 0 ≤ m ∧ m ≤ 64) : mat_within.f i r m = some (decide (0 ≤ i ∧ 1 ≤ r ∧ i ≤ m ∧ r ≤ m - i)) := by
  unfold mat_within.f
  by_cases a : i ≥ 0
  · rw [if_pos a]
    by_cases b : r ≥ 1
    · rw [if_pos b]
      by_cases c : i ≤ m
      · rw [if_pos c]
        congr 1
        rw [decide_eq_decide]
        unfold wrap64
        omega
      · rw [if_neg c, decide_eq_false (by omega)]
    · rw [if_neg b, decide_eq_false (by omega)]
  · rw [if_neg a, decide_eq_false (by omega)]
theorem mp_w {M : Nat} {i : Int} (h : ¬ i < 0) (h2 : ¬ i > (M : Int)) (hM : M ≤ 64) : wrap64 ((M : Int) - i) = (M : Int) - i := by unfold wrap64; omega
theorem cut_cases {M N : Nat} {l lc : List Int} {i j rows cols q1 q2 ec : Int} (ht : shape_Check.f M N l = some 0) (hM : M ≤ 64) (hN : N ≤ 64) (cu : mat_Cut.f M N l i j rows cols = some (q1, q2, lc, ec)) :
    (MpOut M N i j rows cols ∧ lc = [] ∧ ec = 4) ∨ (¬ MpOut M N i j rows cols ∧ ∃ I J R C : Nat, i = I ∧ j = J ∧ rows = R ∧ cols = C ∧ 1 ≤ R ∧ 1 ≤ C ∧ I + R ≤ M ∧ J + C ≤ N ∧ q1 = R ∧ q2 = C ∧ ec = 0 ∧ lc = matCutRows l N I J C R) := by
  unfold mat_Cut.f at cu
  rw [ht, Option.bind_some, if_pos rfl, within_f (by omega), Option.bind_some] at cu
  by_cases h1 : 0 ≤ i ∧ 1 ≤ rows ∧ i ≤ (M : Int) ∧ rows ≤ (M : Int) - i
  · rw [if_pos (decide_eq_true h1), within_f (by omega), Option.bind_some] at cu
    by_cases h2 : 0 ≤ j ∧ 1 ≤ cols ∧ j ≤ (N : Int) ∧ cols ≤ (N : Int) - j
    · rw [if_pos (decide_eq_true h2)] at cu
      simp only [Option.some.injEq, Prod.mk.injEq] at cu
      obtain ⟨rfl, rfl, rfl, rfl⟩ := cu
      refine .inr ⟨by unfold MpOut; omega, i.toNat, j.toNat, rows.toNat, cols.toNat, by omega, by omega, by omega, by omega, by omega, by omega, by omega, by omega, by omega, by omega, rfl, rfl⟩
    · rw [if_neg (by simpa using h2)] at cu
      simp only [Option.some.injEq, Prod.mk.injEq] at cu
      exact .inl ⟨by unfold MpOut; omega, cu.2.2.1.symm, cu.2.2.2.symm⟩
  · rw [if_neg (by simpa using h1)] at cu
    simp only [Option.some.injEq, Prod.mk.injEq] at cu
    exact .inl ⟨by unfold MpOut; omega, cu.2.2.1.symm, cu.2.2.2.symm⟩
structure MpQ (M N I J R C : Nat) (l lc : List Int) : Prop where
  m2 : M ≤ 64
  n1 : 1 ≤ N
  n2 : N ≤ 64
  ll : l.length = M * N
  r1 : 1 ≤ R
  c1 : 1 ≤ C
  im : I + R ≤ M
  jn : J + C ≤ N
  len : lc.length = R * C
  row : ∀ r k, r < R → k < C → rd lc ((r * C + k : Nat) : Int) = rd l (((I + r) * N + J + k : Nat) : Int)
theorem cutRows_row (l : List Int) (n i j cols : Nat) : ∀ t, (∀ q, q < t → (i + q) * n + j + cols ≤ l.length) → ∀ r k, r < t → k < cols → (matCutRows l n i j cols t).getD (r * cols + k) 0 = l.getD ((i + r) * n + j + k) 0
  | 0, _, r, k, h, _ => absurd h (Nat.not_lt_zero _)
  | t + 1, hb, r, k, hr, hk => by
    have hl := cutRows_len l n i j cols t (fun q hq => hb q (by omega))
    have ht := hb t (by omega)
    simp only [matCutRows]
    rcases Nat.lt_or_ge r t with h | h
    · have h1 := Nat.mul_le_mul_right cols (show r + 1 ≤ t from h)
      rw [Nat.add_mul, Nat.one_mul] at h1
      rw [List.getD_eq_getElem?_getD, List.getElem?_append_left (by omega), ← List.getD_eq_getElem?_getD]
      exact cutRows_row l n i j cols t (fun q hq => hb q (by omega)) r k h hk
    · obtain rfl : r = t := by omega
      rw [List.getD_eq_getElem?_getD, List.getElem?_append_right (by omega), hl, show r * cols + k - r * cols = k by omega, List.getElem?_take_of_lt hk, List.getElem?_drop, ← List.getD_eq_getElem?_getD]
theorem place_in {I T M N J C x : Nat} (h : I + T < M) (h2 : J + C ≤ N) (hl : x = M * N) : (I + T) * N + J + C ≤ x := by
  have := place_le (N := N) h
  omega
theorem mp_cut {M N I J R C : Nat} {l lc : List Int} (hn : 1 ≤ M ∧ M ≤ 64 ∧ 1 ≤ N ∧ N ≤ 64 ∧ l.length = M * N) (hR : 1 ≤ R) (hC : 1 ≤ C) (hIM : I + R ≤ M) (hJN : J + C ≤ N) (hlc : lc = matCutRows l N I J C R) : MpQ M N I J R C l lc := by
  have hb : ∀ q, q < R → (I + q) * N + J + C ≤ l.length := fun q hq => place_in (by omega) hJN hn.2.2.2.2
  refine ⟨hn.2.1, hn.2.2.1, hn.2.2.2.1, hn.2.2.2.2, hR, hC, hIM, hJN, by rw [hlc]; exact cutRows_len l N I J C R hb, fun r k hr hk => ?_⟩
  unfold rd
  rw [Int.toNat_natCast, Int.toNat_natCast, hlc]
  exact cutRows_row l N I J C R hb r k hr hk
theorem MpQ.len_test {M N I J R C : Nat} {l lc : List Int} (h : MpQ M N I J R C l lc) : ((lc.length : Int) != wrap64 ((R : Int) * (C : Int))) = false := by
  have h1 := Nat.mul_le_mul (show R ≤ 64 by have := h.im; have := h.m2; omega) (show C ≤ 64 by have := h.jn; have := h.n2; omega)
  rw [h.len, ← Int.natCast_mul]
  simp only [bne_eq_false_iff_eq]
  unfold wrap64
  omega
structure MpPos (T C L1 K X1 I IT N L2 J L3 X2 : Nat) (l lc : List Int) : Prop where
  w1 : wrap64 ((T : Int) * (C : Int)) = (L1 : Int)
  w2 : wrap64 ((L1 : Int) + (K : Int)) = (X1 : Int)
  w3 : wrap64 ((I : Int) + (T : Int)) = (IT : Int)
  w4 : wrap64 ((IT : Int) * (N : Int)) = (L2 : Int)
  w5 : wrap64 ((L2 : Int) + (J : Int)) = (L3 : Int)
  w6 : wrap64 ((L3 : Int) + (K : Int)) = (X2 : Int)
  q1 : (X1 : Int) < (lc.length : Int)
  q2 : (X2 : Int) < (l.length : Int)
  eq : (rd lc (X1 : Int) != rd l (X2 : Int)) = false
theorem MpQ.pos {M N I J R C : Nat} {l lc : List Int} (h : MpQ M N I J R C l lc) {T K : Nat} (hT : T < R) (hK : K < C) {L1 X1 IT L2 L3 X2 : Nat} (h1 : T * C = L1) (h2 : L1 + K = X1) (h3 : I + T = IT) (h4 : (I + T) * N = L2) (h5 : L2 + J = L3) (h6 : L3 + K = X2) : MpPos T C L1 K X1 I IT N L2 J L3 X2 l lc := by
  have a1 := Nat.mul_le_mul_right C (show T + 1 ≤ R from hT)
  rw [Nat.add_mul, Nat.one_mul, h1] at a1
  have a2 := Nat.mul_le_mul (show R ≤ 64 by have := h.im; have := h.m2; omega) (show C ≤ 64 by have := h.jn; have := h.n2; omega)
  have a3 := place_le (N := N) (show I + T < M by have := h.im; omega)
  rw [h4] at a3
  have a4 := Nat.mul_le_mul h.m2 h.n2
  have e1 := h.jn
  have e2 := h.len
  have e3 := h.ll
  have e4 := h.row T K hT hK
  rw [h4, h5, h6, h1, h2] at e4
  have b1 := h.m2
  have b2 := h.im
  have b3 := h.n2
  exact ⟨by rw [← Int.natCast_mul, h1]; unfold wrap64; omega, by unfold wrap64; omega, by unfold wrap64; omega, by rw [← Int.natCast_mul, ← h3, h4]; unfold wrap64; omega, by unfold wrap64; omega, by unfold wrap64; omega, by omega, by omega, by rw [e4]; simp⟩
theorem mp_s {M N I J R C T : Nat} {l lc : List Int} (h2 : T < R) (h : MpQ M N I J R C l lc) : wrap64 ((T : Int) + 1) = ((T + 1 : Nat) : Int) := by
  have := h.im
  have := h.m2
  unfold wrap64; omega
theorem mp_s2 {M N I J R C K : Nat} {l lc : List Int} (h2 : K < C) (h : MpQ M N I J R C l lc) : wrap64 ((K : Int) + 1) = ((K + 1 : Nat) : Int) := by
  have := h.jn
  have := h.n2
  unfold wrap64; omega
theorem paste_cut {M N I J R C : Nat} {l lc : List Int} (h : MpQ M N I J R C l lc) : matPasteRows l N C lc I J R = l := by
  have hb : ∀ q, q < R → (I + q) * N + J + C ≤ l.length ∧ q * C + C ≤ lc.length := fun q hq => by
    have h1 := h.im
    refine ⟨place_in (by omega) h.jn h.ll, ?_⟩
    have h2 := Nat.mul_le_mul_right C (show q + 1 ≤ R from hq)
    rw [Nat.add_mul, Nat.one_mul] at h2
    have h3 := h.len
    omega
  have hl := pasteRows_len l N C lc I J R hb
  refine List.ext_getElem hl (fun x h1 h2 => ?_)
  have hx : (matPasteRows l N C lc I J R).getD x 0 = l.getD x 0 := by
    have hN : 0 < N := h.n1
    have e : x = x / N * N + x % N := by have := Nat.div_add_mod x N; rw [Nat.mul_comm]; omega
    have ha := pasteRows_at l N C lc I J h.jn R hb (x / N) (x % N) (Nat.mod_lt _ hN)
    rw [← e] at ha
    rw [ha]
    split
    case isTrue k =>
      obtain ⟨k1, k2, k3, k4⟩ := k
      have hr := h.row (x / N - I) (x % N - J) (by omega) (by omega)
      unfold rd at hr
      rw [Int.toNat_natCast, Int.toNat_natCast, show I + (x / N - I) = x / N by omega, show x / N * N + J + (x % N - J) = x by omega] at hr
      exact hr
    case isFalse k => rfl
  rw [List.getD_eq_getElem?_getD, List.getD_eq_getElem?_getD, List.getElem?_eq_getElem h1, List.getElem?_eq_getElem h2] at hx
  exact hx
theorem paste_again {M N I J R C : Nat} {l lc : List Int} (h : MpQ M N I J R C l lc) (hM : 1 ≤ M) : mat_Paste.f M N l R C lc I J = some ((M : Int), (N : Int), l, 0) := by
  have h1 := h.im
  have h2 := h.jn
  have h3 := h.m2
  have h4 := h.n2
  have h5 := h.r1
  have h6 := h.c1
  have h7 := h.n1
  unfold mat_Paste.f
  rw [check_of (by omega) (by omega) h.ll, Option.bind_some, if_pos rfl, check_of (by omega) (by omega) h.len, Option.bind_some, if_pos rfl, mp_within (by omega), Option.bind_some, if_pos (decide_eq_true (by omega)), mp_within (by omega), Option.bind_some, if_pos (decide_eq_true (by omega)), Int.toNat_natCast, Int.toNat_natCast, Int.toNat_natCast, Int.toNat_natCast, Int.toNat_natCast, paste_cut h]
/-- a place of what was pasted -/
theorem paste_place {M N I J M2 N2 : Nat} {l l2 : List Int} (hN : 1 ≤ N) (hl : l.length = M * N) (hl2 : l2.length = M2 * N2) (hi : I + M2 ≤ M) (hj : J + N2 ≤ N) {K r s : Nat} (hr : K / N = r) (hs : K % N = s) :
    rd (matPasteRows l N N2 l2 I J M2) (K : Int) = if I ≤ r ∧ r < I + M2 ∧ J ≤ s ∧ s < J + N2 then rd l2 (((r - I) * N2 + (s - J) : Nat) : Int) else rd l (K : Int) := by
  have hb : ∀ q, q < M2 → (I + q) * N + J + N2 ≤ l.length ∧ q * N2 + N2 ≤ l2.length := fun q hq => by
    refine ⟨place_in (by omega) hj hl, ?_⟩
    have h2 := Nat.mul_le_mul_right N2 (show q + 1 ≤ M2 from hq)
    rw [Nat.add_mul, Nat.one_mul] at h2
    omega
  subst hr hs
  have e : K = K / N * N + K % N := by have := Nat.div_add_mod K N; rw [Nat.mul_comm]; omega
  have ha := pasteRows_at l N N2 l2 I J hj M2 hb (K / N) (K % N) (Nat.mod_lt _ hN)
  rw [← e] at ha
  unfold rd
  rw [Int.toNat_natCast, Int.toNat_natCast]
  exact ha
theorem mp_ll {M N : Nat} {l : List Int} (h : 1 ≤ M ∧ M ≤ 64 ∧ 1 ≤ N ∧ N ≤ 64 ∧ l.length = M * N) : l.length ≤ 4096 := by
  have := Nat.mul_le_mul h.2.1 h.2.2.2.1
  omega
/-- what is known of a paste that was made -/
structure MpS (M N I J M2 N2 : Nat) (l l2 lp : List Int) : Prop where
  m2 : M ≤ 64
  n1 : 1 ≤ N
  n2 : N ≤ 64
  ll : l.length = M * N
  r1 : 1 ≤ M2
  c1 : 1 ≤ N2
  im : I + M2 ≤ M
  jn : J + N2 ≤ N
  l2l : l2.length = M2 * N2
  len : lp.length = l.length
  row : ∀ K r s : Nat, K / N = r → K % N = s → rd lp (K : Int) = if I ≤ r ∧ r < I + M2 ∧ J ≤ s ∧ s < J + N2 then rd l2 (((r - I) * N2 + (s - J) : Nat) : Int) else rd l (K : Int)
theorem mp_paste {M N I J M2 N2 : Nat} {l l2 lp : List Int} (hn : 1 ≤ M ∧ M ≤ 64 ∧ 1 ≤ N ∧ N ≤ 64 ∧ l.length = M * N) (hM3 : 1 ≤ M2) (hN3 : 1 ≤ N2) (hi : I + M2 ≤ M) (hj : J + N2 ≤ N) (hl2 : l2.length = M2 * N2) (hlp : lp = matPasteRows l N N2 l2 I J M2) : MpS M N I J M2 N2 l l2 lp := by
  refine ⟨hn.2.1, hn.2.2.1, hn.2.2.2.1, hn.2.2.2.2, hM3, hN3, hi, hj, hl2, ?_, fun K r s hr hs => ?_⟩
  · rw [hlp]
    refine pasteRows_len l N N2 l2 I J M2 (fun q hq => ⟨place_in (by omega) hj hn.2.2.2.2, ?_⟩)
    have h2 := Nat.mul_le_mul_right N2 (show q + 1 ≤ M2 from hq)
    rw [Nat.add_mul, Nat.one_mul] at h2
    omega
  · rw [hlp]
    exact paste_place hn.2.2.1 hn.2.2.2.2 hl2 hi hj hr hs
theorem MpS.tests {M N I J M2 N2 : Nat} {l l2 lp : List Int} (h : MpS M N I J M2 N2 l l2 lp) {i j m2 n2 : Int} (e : i = I ∧ j = J ∧ m2 = M2 ∧ n2 = N2) : decide (i < 0) = false ∧ decide (j < 0) = false ∧ decide (i > (M : Int)) = false ∧ decide (j > (N : Int)) = false ∧ decide (m2 > (M : Int) - i) = false ∧ decide (n2 > (N : Int) - j) = false ∧ wrap64 ((M : Int) - i) = (M : Int) - i ∧ wrap64 ((N : Int) - j) = (N : Int) - j := by
  have h1 := h.im
  have h2 := h.jn
  have h3 := h.m2
  have h4 := h.n2
  exact ⟨decide_eq_false (by omega), decide_eq_false (by omega), decide_eq_false (by omega), decide_eq_false (by omega), decide_eq_false (by omega), decide_eq_false (by omega), by unfold wrap64; omega, by unfold wrap64; omega⟩
theorem MpS.len_test {M N I J M2 N2 : Nat} {l l2 lp : List Int} (h : MpS M N I J M2 N2 l l2 lp) : ((lp.length : Int) != (l.length : Int)) = false := by
  rw [h.len]
  simp
/-- one place of the last loop -/
structure MpR (N : Nat) (i j m2 n2 : Int) (K r s : Nat) (dr ds : Int) (l l2 lp : List Int) : Prop where
  z1 : ((N : Int) == 0) = false
  z2 : ((N : Int) != 0) = true
  w1 : wrap64 (Int.tdiv (K : Int) (N : Int)) = (r : Int)
  w2 : Int.tmod (K : Int) (N : Int) = (s : Int)
  w3 : wrap64 ((r : Int) - i) = dr
  w4 : wrap64 ((s : Int) - j) = ds
  out : ¬ (0 ≤ dr ∧ dr < m2 ∧ 0 ≤ ds ∧ ds < n2) → (rd lp (K : Int) != rd l (K : Int)) = false
  at_ : 0 ≤ dr → dr < m2 → 0 ≤ ds → ds < n2 → ∃ D X : Nat, wrap64 (dr * n2) = (D : Int) ∧ wrap64 ((D : Int) + ds) = (X : Int) ∧ (X : Int) < (l2.length : Int) ∧ (rd lp (K : Int) != rd l2 (X : Int)) = false
theorem MpS.pos {M N I J M2 N2 : Nat} {l l2 lp : List Int} (h : MpS M N I J M2 N2 l l2 lp) {i j m2 n2 : Int} (e : i = I ∧ j = J ∧ m2 = M2 ∧ n2 = N2) {K r s : Nat} {dr ds : Int} (hK : K < l.length) (hr : K / N = r) (hs : K % N = s) (hdr : (r : Int) - i = dr) (hds : (s : Int) - j = ds) : MpR N i j m2 n2 K r s dr ds l l2 lp := by
  obtain ⟨rfl, rfl, rfl, rfl⟩ := e
  have a1 := h.n1
  have a2 := h.n2
  have a3 := h.m2
  have a4 := h.im
  have a5 := h.jn
  have a6 := h.ll
  have a7 := h.l2l
  have a8 := Nat.mul_le_mul a3 a2
  have a9 : s < N := by rw [← hs]; exact Nat.mod_lt _ a1
  have b1 : r < M := by
    rw [← hr]
    exact (Nat.div_lt_iff_lt_mul a1).2 (by omega)
  have hrow := h.row K r s hr hs
  refine ⟨beq_eq_false_iff_ne.mpr (by omega), bne_iff_ne.mpr (by omega), ?_, ?_, by unfold wrap64; omega, by unfold wrap64; omega, fun k => ?_, fun k1 k2 k3 k4 => ?_⟩
  · rw [Int.tdiv_eq_ediv_of_nonneg (Int.natCast_nonneg K), ← Int.natCast_ediv, hr]
    unfold wrap64; omega
  · rw [Int.tmod_eq_emod_of_nonneg (Int.natCast_nonneg K), ← Int.natCast_emod, hs]
  · rw [hrow, if_neg (by omega)]
    simp
  · obtain ⟨dn, rfl⟩ := Int.eq_ofNat_of_zero_le k1
    obtain ⟨sn, rfl⟩ := Int.eq_ofNat_of_zero_le k3
    obtain ⟨D, hD⟩ : ∃ x, dn * N2 = x := ⟨_, rfl⟩
    have c1 := Nat.mul_le_mul_right N2 (show dn + 1 ≤ M2 by omega)
    rw [Nat.add_mul, Nat.one_mul, hD, ← a7] at c1
    have c2 := Nat.mul_le_mul (show M2 ≤ 64 by omega) (show N2 ≤ 64 by omega)
    rw [← a7] at c2
    refine ⟨D, D + sn, by rw [← Int.natCast_mul, hD]; unfold wrap64; omega, by unfold wrap64; omega, by omega, ?_⟩
    rw [hrow, if_pos (by omega), show r - I = dn by omega, show s - J = sn by omega, hD]
    simp
theorem mp_s3 {M N K : Nat} {l : List Int} (h2 : K < l.length) (h : 1 ≤ M ∧ M ≤ 64 ∧ 1 ≤ N ∧ N ≤ 64 ∧ l.length = M * N) : wrap64 ((K : Int) + 1) = ((K + 1 : Nat) : Int) := by
  have := mp_ll h
  unfold wrap64; omega
/-- one place of a cut, in the caller's own numbers -/
structure MpPos2 (N : Nat) (i j cols : Int) (T K : Nat) (L1 X1 IT L2 L3 X2 : Int) (l lc : List Int) : Prop where
  w1 : wrap64 ((T : Int) * cols) = L1
  w2 : wrap64 (L1 + (K : Int)) = X1
  w3 : wrap64 (i + (T : Int)) = IT
  w4 : wrap64 (IT * (N : Int)) = L2
  w5 : wrap64 (L2 + j) = L3
  w6 : wrap64 (L3 + (K : Int)) = X2
  p1 : 0 ≤ X1
  p2 : 0 ≤ X2
  q1 : X1 < (lc.length : Int)
  q2 : X2 < (l.length : Int)
  eq : (rd lc X1 != rd l X2) = false
theorem MpQ.pos2 {M N I J R C : Nat} {l lc : List Int} (h : MpQ M N I J R C l lc) {i j rows cols : Int} (e : i = I ∧ j = J ∧ rows = R ∧ cols = C) {T K : Nat} (hT : T < R) (hK : K < C) {L1 X1 IT L2 L3 X2 : Int} (h1 : (T : Int) * cols = L1) (h2 : L1 + (K : Int) = X1) (h3 : i + (T : Int) = IT) (h4 : IT * (N : Int) = L2) (h5 : L2 + j = L3) (h6 : L3 + (K : Int) = X2) : MpPos2 N i j cols T K L1 X1 IT L2 L3 X2 l lc := by
  obtain ⟨rfl, rfl, rfl, rfl⟩ := e
  have p := h.pos hT hK rfl rfl rfl rfl rfl rfl
  obtain rfl : L1 = ((T * C : Nat) : Int) := by rw [← h1, Int.natCast_mul]
  obtain rfl : X1 = ((T * C + K : Nat) : Int) := by rw [← h2, Int.natCast_add]
  obtain rfl : IT = ((I + T : Nat) : Int) := by rw [← h3, Int.natCast_add]
  obtain rfl : L2 = (((I + T) * N : Nat) : Int) := by rw [← h4, Int.natCast_mul]
  obtain rfl : L3 = (((I + T) * N + J : Nat) : Int) := by rw [← h5, Int.natCast_add]
  obtain rfl : X2 = (((I + T) * N + J + K : Nat) : Int) := by rw [← h6]; exact (Int.natCast_add _ _).symm
  exact ⟨p.w1, p.w2, p.w3, p.w4, p.w5, p.w6, Int.natCast_nonneg _, Int.natCast_nonneg _, p.q1, p.q2, p.eq⟩
theorem MpQ.len_test2 {M N I J R C : Nat} {l lc : List Int} (h : MpQ M N I J R C l lc) {i j rows cols : Int} (e : i = I ∧ j = J ∧ rows = R ∧ cols = C) : ((lc.length : Int) != wrap64 (rows * cols)) = false := by
  obtain ⟨rfl, rfl, rfl, rfl⟩ := e
  exact h.len_test
theorem paste_again2 {M N I J R C : Nat} {l lc : List Int} (h : MpQ M N I J R C l lc) (hM : 1 ≤ M) {i j rows cols : Int} (e : i = I ∧ j = J ∧ rows = R ∧ cols = C) : mat_Paste.f M N l rows cols lc i j = some ((M : Int), (N : Int), l, 0) := by
  obtain ⟨rfl, rfl, rfl, rfl⟩ := e
  exact paste_again h hM
end Go.Proofs.Ythegoeabimehhaa.Mt
