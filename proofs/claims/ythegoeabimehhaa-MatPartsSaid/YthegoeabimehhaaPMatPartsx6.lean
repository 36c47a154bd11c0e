-- PRINTED by print.py (a twelfth state) out of the translation. Not trusted: Lean checks it.
import Derived.Test.YthegoeabimehhaaPMatPartsx0
import Derived.Test.YthegoeabimehhaaPMatPartsx1
import Derived.Test.YthegoeabimehhaaPMatPartsx5
namespace Go.Proofs.Ythegoeabimehhaa.PMatParts
open Go.RowKit Go.Proofs.YthegoeabimehhaaW.PrintWords Go.Proofs.YthegoeabimehhaaW.PrintLast Go.Proofs.YthegoeabimehhaaW.PrintMore
attribute [local go_sem] max2_int min2_int max_two min_two max_three min_three max_four min_four   -- for this text's walks alone
set_option linter.unusedVariables false
set_option linter.unusedSimpArgs false

/-! ### mat_Cut: function 12 -/
def matCutRows (l : List Int) (n i j cols : Nat) : Nat → List Int
  | 0 => []
  | t + 1 => matCutRows l n i j cols t ++ (l.drop ((i + t) * n + j)).take cols
def mat_Cut.f (a0_0 : Int) (a0_1 : Int) (l0_2 : List Int) (a1 : Int) (a2 : Int) (a3 : Int) (a4 : Int) : Option (Int × Int × List Int × Int) := (shape_Check.f a0_0 a0_1 l0_2).bind fun t => if t = 0 then ((mat_within.f a1 a3 a0_0).bind fun b => if b = true then ((mat_within.f a2 a4 a0_1).bind fun b2 => if b2 = true then some (a3, a4, matCutRows l0_2 a0_1.toNat a1.toNat a2.toNat a4.toNat a3.toNat, 0) else some (0, 0, ([] : List Int), 4)) else some (0, 0, ([] : List Int), 4)) else some (0, 0, ([] : List Int), t)
set_option maxHeartbeats 8000000 in
set_option maxRecDepth 100000 in
theorem mat_row_calls (m n i : Int) (L N H : Nat) (A B : Option Addr) (c c' : Nat) (len : Nat) (w : World) (hB : A.map (·.add L) = B) (hc' : c - L = c') (h1 : wrap64 (i * n) = (L : Int)) (h2 : wrap64 (wrap64 (i + 1) * n) = (H : Int)) (hH : H = L + N) (hN : 1 ≤ N) (hl : H ≤ len) (hc : len ≤ c) :
    Calls Try.prog 25 #[.agg #[.int .i64 m, .int .i64 n, .slice A len c], .int .i64 i] w fun e w' => e = .returned (.slice B N c') ∧ Below w.heap.size w w' := by
  subst hB hc'
  have hsl : ∀ W : World, (Instr.slice 22 (.slice A len c) (some (.int .i64 (L : Int))) (some (.int .i64 (H : Int))) none).run Try.prog W = .ok (.slice (A.map (·.add L)) N (c - L)) W := fun W => by
    obtain ⟨i0, hi, hz⟩ := Option.map_eq_some_iff.1 info30
    simp only [Prod.mk.injEq] at hz
    have hel : Try.prog.elem 22 = 30 := by simp [Program.elem, Try.underlying22]
    have hu : Try.prog.underlying 22 = some (.slice (Try.prog.elem 22)) := by rw [hel]; exact Try.underlying22
    rw [run_slice_lh W 22 A len c hu .i64 .i64 (L : Int) (H : Int) (by omega) (by omega) (by omega), hel]
    have hne : ¬ c = L := by omega
    simp [sizeOf, typeInfo, hi, hz.2.1, sliced, Result.andThen, hne, show H - L = N by omega]
  have HB := Aside0.mk (below_alloc (Below.refl _ w) (.cells #[.int .i64 m, .int .i64 n, .slice A len c] 24))
  clear hH hN hl hc
  go_enter Try.func25, Try.ntmps25
  go_wp2
  go_ret
  exact ⟨rfl, HB.out⟩
def CtInv (w : World) (m n : Int) (u : Value) (W : World) : Prop := Below w.heap.size w W ∧ MatBox W w.heap.size m n u ∧ MatBox W (w.heap.size + 1) 0 0 (.slice none 0 0)
theorem CtInv.below {w : World} {m n : Int} {u : Value} {W W' : World} (h : CtInv w m n u W) (k : Below W.heap.size W W') : CtInv w m n u W' := ⟨below_then h.1 h.1.size k, blk_below h.2.1 k, blk_below h.2.2 k⟩
theorem CtInv.start (w : World) (m n : Int) (u : Value) : CtInv w m n u ((w.alloc (.cells #[.int .i64 m, .int .i64 n, u] 24)).alloc (.cells #[.int .i64 0, .int .i64 0, .slice none 0 0] 24)) := by
  refine ⟨below_alloc (below_alloc (Below.refl _ w) _) _, blk_below (blk_new w _) (below_alloc (Below.refl _ _) _), ?_⟩
  have h := blk_new (w.alloc (.cells #[.int .i64 m, .int .i64 n, u] 24)) (.cells #[.int .i64 0, .int .i64 0, .slice none 0 0] 24)
  rw [World.size_alloc] at h
  exact h
theorem side_true {x : Int} (h : shape_side.f x = some true) : 1 ≤ x ∧ x ≤ 64 := by
  unfold shape_side.f at h
  by_cases a : x ≥ 1
  · rw [if_pos a] at h
    exact ⟨a, of_decide_eq_true (Option.some.inj h)⟩
  · rw [if_neg a] at h; cases h
theorem check_ok {m n : Int} {l : List Int} (h : shape_Check.f m n l = some 0) : ∃ M N : Nat, m = (M : Int) ∧ n = (N : Int) ∧ 1 ≤ M ∧ M ≤ 64 ∧ 1 ≤ N ∧ N ≤ 64 ∧ l.length = M * N := by
  unfold shape_Check.f at h
  obtain ⟨a, ha, h⟩ := Option.bind_eq_some_iff.1 h
  by_cases a1 : a = true
  · subst a1
    rw [if_pos rfl] at h
    obtain ⟨b, hb, h⟩ := Option.bind_eq_some_iff.1 h
    by_cases b1 : b = true
    · subst b1
      rw [if_pos rfl] at h
      by_cases c1 : (l.length : Int) = wrap64 (m * n)
      · have s1 := side_true ha
        have s2 := side_true hb
        obtain ⟨M, rfl⟩ := Int.eq_ofNat_of_zero_le (show 0 ≤ m by omega)
        obtain ⟨N, rfl⟩ := Int.eq_ofNat_of_zero_le (show 0 ≤ n by omega)
        have hb : M * N ≤ 64 * 64 := Nat.mul_le_mul (by omega) (by omega)
        rw [← Int.natCast_mul] at c1
        exact ⟨M, N, rfl, rfl, by omega, by omega, by omega, by omega, by unfold wrap64 at c1; omega⟩
      · rw [if_neg c1] at h; simp at h
    · rw [if_neg b1] at h; simp at h
  · rw [if_neg a1] at h; simp at h
theorem within_ok {i r m : Int} (hm : m ≤ 64) (h : mat_within.f i r m = some true) : 0 ≤ i ∧ 1 ≤ r ∧ i + r ≤ m := by
  unfold mat_within.f at h
  by_cases a : i ≥ 0
  · rw [if_pos a] at h
    by_cases b : r ≥ 1
    · rw [if_pos b] at h
      by_cases c : i ≤ m
      · rw [if_pos c] at h
        have d : r ≤ wrap64 (m - i) := of_decide_eq_true (Option.some.inj h)
        unfold wrap64 at d
        omega
      · rw [if_neg c] at h; cases h
    · rw [if_neg b] at h; cases h
  · rw [if_neg a] at h; cases h
theorem addr_add2 (ad : Addr) (i j : Nat) : (ad.add i).add j = ad.add (i + j) := by
  rcases Nat.eq_zero_or_pos j with rfl | hj
  · simp [Addr.add]
  · rcases Nat.eq_zero_or_pos i with rfl | hi
    · simp [Addr.add]
    · have h1 : ¬ j = 0 := by omega
      have h2 : ¬ i = 0 := by omega
      have h3 : ¬ i + j = 0 := by omega
      simp [Addr.add, h1, h2, h3, Nat.add_assoc]
theorem put3_box {W : World} {b : Nat} {m n : Int} {u : Value} (B : MatBox W b m n u) (m' n' : Int) (u' : Value) : MatBox (((W.setCell ⟨b, 0, none⟩ (.int .i64 m')).setCell ⟨b, 1, none⟩ (.int .i64 n')).setCell ⟨b, 2, none⟩ u') b m' n' u' := blk_put (blk_put (blk_put B 0 _ rfl) 1 _ rfl) 2 _ rfl
theorem put3_below {B : Nat} {w W : World} {b : Nat} (h : Below B w W) (hb : B ≤ b) (x y z : Value) : Below B w (((W.setCell ⟨b, 0, none⟩ x).setCell ⟨b, 1, none⟩ y).setCell ⟨b, 2, none⟩ z) := ((h.setCell (p := ⟨b, 0, none⟩) hb _).setCell (p := ⟨b, 1, none⟩) hb _).setCell (p := ⟨b, 2, none⟩) hb _
theorem put3_R {w W : World} {b : Nat} {m n m' n' : Int} {u u' v : Value} {ys : List Int} (h : Kd.R (Kd.int .u64) 30 W w.heap.size (fun _ => True) v ys) (B : MatBox W b m n u) : Kd.R (Kd.int .u64) 30 (((W.setCell ⟨b, 0, none⟩ (.int .i64 m')).setCell ⟨b, 1, none⟩ (.int .i64 n')).setCell ⟨b, 2, none⟩ u') w.heap.size (fun _ => True) v ys :=
  R_put24 (R_put24 (R_put24 h B) (blk_put B 0 _ rfl)) (blk_put (blk_put B 0 _ rfl) 1 _ rfl)
theorem cut_C {w : World} {A : Option Addr} {l : List Int} (h : Kd.C (Kd.int .u64) w A l.length l) (L J C : Nat) (hb : L + J + C ≤ l.length) : Kd.C (Kd.int .u64) w ((A.map (·.add L)).map (·.add J)) C ((l.drop (L + J)).take C) := by
  obtain ⟨h1, h2, h3⟩ := Kd.reads_of_C (d := (0 : Int)) (h1 := fun _ => rfl) h
  refine Kd.C_of_reads (d := (0 : Int)) (h1 := fun _ => rfl) ⟨by simp; omega, by omega, fun hC => ?_⟩
  obtain ⟨ad, rfl, hc⟩ := h3 (by omega)
  refine ⟨(ad.add L).add J, rfl, fun j hj => ?_⟩
  rw [addr_add2, addr_add2, hc (L + (J + j)) (by omega)]
  congr 2
  rw [List.getD_eq_getElem?_getD, List.getD_eq_getElem?_getD, List.getElem?_take_of_lt hj, List.getElem?_drop]
  congr 2
  omega
theorem place_le {I T M N : Nat} (h : I + T < M) : (I + T) * N + N ≤ M * N := by
  have := Nat.mul_le_mul_right N (show I + T + 1 ≤ M from h)
  rw [Nat.add_mul (I + T) 1 N, Nat.one_mul] at this
  exact this
theorem slice_in (A : Option Addr) (N c J C JC : Nat) (h : J + C = JC) (h1 : JC ≤ N) (h2 : N ≤ c) (h3 : 1 ≤ C) (W : World) : (Instr.slice 22 (.slice A N c) (some (.int .i64 (J : Int))) (some (.int .i64 (JC : Int))) none).run Try.prog W = .ok (.slice (A.map (·.add J)) C (c - J)) W := by
  obtain ⟨i0, hi, hz⟩ := Option.map_eq_some_iff.1 info30
  simp only [Prod.mk.injEq] at hz
  have hel : Try.prog.elem 22 = 30 := by simp [Program.elem, Try.underlying22]
  have hu : Try.prog.underlying 22 = some (.slice (Try.prog.elem 22)) := by rw [hel]; exact Try.underlying22
  rw [run_slice_lh W 22 A N c hu .i64 .i64 (J : Int) (JC : Int) (by omega) (by omega) (by omega), hel]
  have hne : ¬ c = J := by omega
  simp [sizeOf, typeInfo, hi, hz.2.1, sliced, Result.andThen, hne, show JC - J = C by omega]
theorem cut_bd {J C N JC : Nat} (h : J + C ≤ N) (e : J + C = JC) : JC ≤ N := by omega
theorem cut_bc {I T N M L c : Nat} {l : List Int} (h : (I + T) * N + N ≤ M * N) (e : (I + T) * N = L) (h2 : l.length = M * N) (hc : l.length ≤ c) : N ≤ c - L := by omega
theorem step_app {P : Program} {ops : Array Oper} {o : Oper} {a : Act} {w w0 : World} {K : Act → World → Prop} {Q : Exit → Act → World → Prop} {E : Prop} (hgd : o.guard = none) (s x : Operand) (t e : TypeId) (ho : o.op = .call { callee := .builtin .append, args := #[s, x], argTypes := #[t, t] })
    (ht : P.underlying t = some (.slice e)) (hinfo : (P.info? e).map (fun i => (i.zero, i.size, i.bytes)) = some (some (.int .u64 0), 1, 8)) {v : Value} {xs ys : List Int} {A : Option Addr} {m c : Nat} (hs : a.eval s = v) (hx : a.eval x = .slice A m c)
    (HO : Kd.R (Kd.int .u64) e w w0.heap.size (fun _ => True) v xs) (HR : Kd.C (Kd.int .u64) w A m ys) (HB : Below w0.heap.size w0 w) (hl : (xs.length + m) * 8 ≤ 140737488355328)
    (h : ∀ v1 w1, Kd.R (Kd.int .u64) e w1 w0.heap.size (fun _ => True) v1 (xs ++ ys) → Below w0.heap.size w0 w1 → w.grownBy w1 v.ownBlock → K (a.put o.dst v1) w1) :
    if Region.wanted o (yielded ops a.tmps) = true then Oper.wp P o a w K Q else E := by
  have hw : Region.wanted o (yielded ops a.tmps) = true := by simp [Region.wanted, hgd]
  rw [if_pos hw]
  have q := Kd.R_append_rows_step (P := P) (ops := ops) (o := o) (a := a) (Q := Q) (Kc := K) (Kd.int .u64) (w0 := w0) (W := w) w0.heap.size hw s x t e (.int .u64 0) 8 ho ht hinfo rfl (by decide) (by omega) v xs ys A m c (fun _ => True) (fun _ => False) hs hx HO HR (fun _ _ h => h) (fun _ h => h.elim) (fun _ _ => trivial) HB HB.size hl (fun v1 w1 h1 h2 h3 _ => h v1 w1 h1 h2 h3)
  rw [if_pos hw] at q
  exact q
theorem wrap_i64 {x y : Int} (h : wrap64 x = y) : IntKind.i64.wrap x = y := by
  rw [← h]
  simp only [IntKind.wrap, IntKind.signed, IntKind.bits, wrap64]
  simp
  split <;> omega
theorem cut_m {T R gk : Nat} (h : T + gk = R) (h2 : T < R) : gk - 1 < gk := by omega
theorem cut_r {T R gk : Nat} (h : T + gk = R) (h2 : T < R) : T + 1 + (gk - 1) = R := by omega
theorem cut_s {M N I R J C T : Nat} {l : List Int} (h2 : T < R) (q1 : 1 ≤ M ∧ M ≤ 64 ∧ 1 ≤ N ∧ N ≤ 64 ∧ l.length = M * N ∧ I + R ≤ M ∧ 1 ≤ R ∧ J + C ≤ N ∧ 1 ≤ C) : wrap64 ((T : Int) + 1) = ((T + 1 : Nat) : Int) := by unfold wrap64; omega
theorem CtInv.put {w : World} {m n : Int} {u : Value} {W : World} {b : Nat} (h : CtInv w m n u W) (n1 : w.heap.size < b) (n2 : w.heap.size + 1 < b) (i : Nat) (v : Value) : CtInv w m n u (W.setCell ⟨b, i, none⟩ v) :=
  ⟨h.1.setCell (p := ⟨b, i, none⟩) (Nat.le_of_lt n1) _, (Below.heap_setCell W _ _ _ (Nat.ne_of_lt n1)).trans h.2.1, (Below.heap_setCell W _ _ _ (Nat.ne_of_lt n2)).trans h.2.2⟩
theorem row_lo {I T N IT L M : Nat} (h1 : I + T = IT) (h2 : (I + T) * N = L) (h4 : (I + T) * N + N ≤ M * N) (h5 : M * N ≤ 4096) : wrap64 ((IT : Int) * (N : Int)) = (L : Int) := by
  rw [← Int.natCast_mul, ← h1, h2]
  unfold wrap64; omega
theorem row_le {I T N L H M : Nat} {l : List Int} (h2 : (I + T) * N = L) (h3 : L + N = H) (h4 : (I + T) * N + N ≤ M * N) (hl : l.length = M * N) : H ≤ l.length := by omega
theorem cut_fit {I T N L M J C : Nat} {l : List Int} (h2 : (I + T) * N = L) (h4 : (I + T) * N + N ≤ M * N) (hl : l.length = M * N) (h : J + C ≤ N) : L + J + C ≤ l.length := by omega
theorem len_fit {x C : Nat} (h : x + C ≤ 8192) : (x + C) * 8 ≤ 140737488355328 := by omega
theorem row_hi {I T N IT L H M : Nat} (h1 : I + T = IT) (h2 : (I + T) * N = L) (h3 : L + N = H) (h4 : (I + T) * N + N ≤ M * N) (h5 : M * N ≤ 4096) (h6 : N ≤ 64) (h7 : 1 ≤ N := by omega) : wrap64 (wrap64 ((IT : Int) + 1) * (N : Int)) = (H : Int) := by
  have e0 : IT ≤ IT * N := Nat.le_mul_of_pos_right _ h7
  have e1 : IT * N = L := by rw [← h1]; exact h2
  have e2 : wrap64 ((IT : Int) + 1) = ((IT + 1 : Nat) : Int) := by unfold wrap64; omega
  rw [e2, ← Int.natCast_mul, Nat.add_mul, Nat.one_mul, e1, h3]
  unfold wrap64; omega
theorem cutRows_len (l : List Int) (n i j cols : Nat) : ∀ t, (∀ q, q < t → (i + q) * n + j + cols ≤ l.length) → (matCutRows l n i j cols t).length = t * cols
  | 0, _ => by simp [matCutRows]
  | t + 1, h => by
    have ih := cutRows_len l n i j cols t (fun q hq => h q (by omega))
    have := h t (by omega)
    simp only [matCutRows, List.length_append, List.length_take, List.length_drop, ih]
    rw [Nat.add_mul t 1 cols, Nat.one_mul]
    omega
theorem cut_len {M N I R J C T : Nat} {l : List Int} (q1 : 1 ≤ M ∧ M ≤ 64 ∧ 1 ≤ N ∧ N ≤ 64 ∧ l.length = M * N ∧ I + R ≤ M ∧ 1 ≤ R ∧ J + C ≤ N ∧ 1 ≤ C) (q2 : T < R) : (matCutRows l N I J C T).length + C ≤ 8192 := by
  rw [cutRows_len l N I J C T (fun q hq => by have := place_le (I := I) (T := q) (M := M) (N := N) (by omega); omega)]
  have := Nat.mul_le_mul (show T ≤ 64 by omega) (show C ≤ 64 by omega)
  omega
theorem mb_grown {W W' : World} {b base : Nat} {m n : Int} {z x : Value} {xs : List Int} (B : MatBox W b m n z) (g : W.grownBy W' x.ownBlock) (hx : Kd.R (Kd.int .u64) 30 W base (fun _ => True) x xs) : MatBox W' b m n z := blk_grown B g (own_ne (Kd.own_of_R hx) B (by decide))
theorem CtInv.grown {w : World} {m n : Int} {u x : Value} {xs : List Int} {W W' : World} (h : CtInv w m n u W) (g : W.grownBy W' x.ownBlock) (hx : Kd.R (Kd.int .u64) 30 W w.heap.size (fun _ => True) x xs) : CtInv w m n u W' := ⟨h.1.grown g h.1.size (Kd.R_base hx), mb_grown h.2.1 g hx, mb_grown h.2.2 g hx⟩
def CtOut (w : World) (m n : Int) (b : Nat) (xs : List Int) (W : World) : Prop := ∃ v, MatBox W b m n v ∧ Kd.R (Kd.int .u64) 30 W w.heap.size (fun _ => True) v xs
set_option maxHeartbeats 8000000 in
set_option maxRecDepth 100000 in
theorem mat_Cut.calls (a0_0 : Int) (a0_1 : Int) (A0_2 : Option Addr) (c0_2 : Nat) (l0_2 : List Int) (a1 : Int) (a2 : Int) (a3 : Int) (a4 : Int) (r1 : Int) (r2 : Int) (r3 : List Int) (r4 : Int) (w : World) (hr0_2 : Kd.C (Kd.int .u64) w A0_2 l0_2.length l0_2) (hc0_2 : l0_2.length ≤ c0_2) (h : mat_Cut.f a0_0 a0_1 l0_2 a1 a2 a3 a4 = some (r1, r2, r3, r4)) :
    Calls Try.prog 12 #[.agg #[.int .i64 a0_0, .int .i64 a0_1, .slice A0_2 l0_2.length c0_2], .int .i64 a1, .int .i64 a2, .int .i64 a3, .int .i64 a4] w fun e w' => ∃ v2_ : Value, e = .returned (.tuple #[.agg #[.int .i64 r1, .int .i64 r2, v2_], .int .i64 r4]) ∧ Kd.R (Kd.int .u64) 30 w' w.heap.size (fun _ => True) v2_ r3 ∧ Below w.heap.size w w' := by
  have hu36 := Try.underlying24
  have H0 := Aside0.mk hr0_2
  have HC := Aside0.mk hc0_2
  have I0 := Aside0.mk (CtInv.start w a0_0 a0_1 (.slice A0_2 l0_2.length c0_2))
  clear hr0_2 hc0_2
  unfold mat_Cut.f at h
  obtain ⟨t, ht, h⟩ := Option.bind_eq_some_iff.1 h
  have HT := Aside0.mk ht
  clear ht
  by_cases ht0 : t = 0
  · subst ht0
    rw [if_pos rfl] at h
    obtain ⟨b, hb, h⟩ := Option.bind_eq_some_iff.1 h
    have HW1 := Aside0.mk hb
    clear hb
    cases b with
    | false =>
      rw [if_neg (by decide)] at h
      simp only [Option.some.injEq, Prod.mk.injEq] at h
      obtain ⟨rfl, rfl, rfl, rfl⟩ := h
      go_enter Try.func12, Try.ntmps12
      go_wp2_with (first
        | (go_at_call 14; refine (shape_Check.calls a0_0 a0_1 _ _ l0_2 0 _ (Kd.C_below H0.out I0.out.1) HC.out HT.out).mono ?_; rintro e W1 ⟨rfl, hb1⟩; have I1 := Aside0.mk (I0.out.below hb1); obtain ⟨x0, x1, x2⟩ := matBox_cells I1.out.2.1; obtain ⟨z0, z1, z2⟩ := matBox_cells I1.out.2.2; have zf := blk_frozen I1.out.2.2; clear hb1)
        | (go_at_call 24; (with_reducible refine (mat_within.calls a1 a3 a0_0 false _ HW1.out).mono ?_); rintro e W2 ⟨rfl, hd2⟩; have I2 := Aside0.mk (I1.out.below hd2.below); obtain ⟨x0, x1, x2⟩ := matBox_cells I2.out.2.1; obtain ⟨z0, z1, z2⟩ := matBox_cells I2.out.2.2; have zf := blk_frozen I2.out.2.2; clear hd2))
      refine bodyPost_ret (results_ct rfl _ _ (w.heap.size + 1) 24 #[.int .i64 0, .int .i64 0, .slice none 0 0] (0, 0) _ rfl (put3_box (show MatBox _ (w.heap.size + 1) 0 0 (.slice none 0 0) from I2.out.2.2) 0 0 (.slice none 0 0)) Try.underlying24 rfl (by kernel_rfl)) rfl ?_
      exact ⟨_, rfl, Kd.R_nil _ _ _ _ _, put3_below (I2.out.1) (by omega) _ _ _⟩
    | true =>
      rw [if_pos rfl] at h
      obtain ⟨b, hb, h⟩ := Option.bind_eq_some_iff.1 h
      have HW2 := Aside0.mk hb
      clear hb
      cases b with
      | false =>
        rw [if_neg (by decide)] at h
        simp only [Option.some.injEq, Prod.mk.injEq] at h
        obtain ⟨rfl, rfl, rfl, rfl⟩ := h
        go_enter Try.func12, Try.ntmps12
        go_wp2_with (first
          | (go_at_call 14; refine (shape_Check.calls a0_0 a0_1 _ _ l0_2 0 _ (Kd.C_below H0.out I0.out.1) HC.out HT.out).mono ?_; rintro e W1 ⟨rfl, hb1⟩; have I1 := Aside0.mk (I0.out.below hb1); obtain ⟨x0, x1, x2⟩ := matBox_cells I1.out.2.1; obtain ⟨z0, z1, z2⟩ := matBox_cells I1.out.2.2; have zf := blk_frozen I1.out.2.2; clear hb1)
          | (go_at_call 24; (with_reducible refine (mat_within.calls a1 a3 a0_0 true _ HW1.out).mono ?_); rintro e W2 ⟨rfl, hd2⟩; have I2 := Aside0.mk (I1.out.below hd2.below); obtain ⟨x0, x1, x2⟩ := matBox_cells I2.out.2.1; obtain ⟨z0, z1, z2⟩ := matBox_cells I2.out.2.2; have zf := blk_frozen I2.out.2.2; clear hd2)
          | (go_at_call 24; (with_reducible refine (mat_within.calls a2 a4 a0_1 false _ HW2.out).mono ?_); rintro e W3 ⟨rfl, hd3⟩; have I3 := Aside0.mk (I2.out.below hd3.below); obtain ⟨x0, x1, x2⟩ := matBox_cells I3.out.2.1; obtain ⟨z0, z1, z2⟩ := matBox_cells I3.out.2.2; have zf := blk_frozen I3.out.2.2; clear hd3))
        refine bodyPost_ret (results_ct rfl _ _ (w.heap.size + 1) 24 #[.int .i64 0, .int .i64 0, .slice none 0 0] (0, 0) _ rfl (put3_box (show MatBox _ (w.heap.size + 1) 0 0 (.slice none 0 0) from I3.out.2.2) 0 0 (.slice none 0 0)) Try.underlying24 rfl (by kernel_rfl)) rfl ?_
        exact ⟨_, rfl, Kd.R_nil _ _ _ _ _, put3_below (I3.out.1) (by omega) _ _ _⟩
      | true =>
        rw [if_pos rfl] at h
        simp only [Option.some.injEq, Prod.mk.injEq] at h
        obtain ⟨rfl, rfl, rfl, rfl⟩ := h
        obtain ⟨M, N, eM, eN, hM1, hM2, hN1, hN2, hl⟩ := check_ok HT.out
        have f1 := within_ok (by omega) HW1.out
        have f2 := within_ok (by omega) HW2.out
        obtain ⟨I, eI⟩ := Int.eq_ofNat_of_zero_le f1.1
        obtain ⟨J, eJ⟩ := Int.eq_ofNat_of_zero_le f2.1
        obtain ⟨R, eR⟩ := Int.eq_ofNat_of_zero_le (show 0 ≤ a3 by omega)
        obtain ⟨C, eC⟩ := Int.eq_ofNat_of_zero_le (show 0 ≤ a4 by omega)
        have eI : a1 = ((I : Nat) : Int) := eI
        have eJ : a2 = ((J : Nat) : Int) := eJ
        have eR : a3 = ((R : Nat) : Int) := eR
        have eC : a4 = ((C : Nat) : Int) := eC
        subst eM eN eI eJ eR eC
        simp only [Int.toNat_natCast]
        have HN := Aside0.mk (show 1 ≤ M ∧ M ≤ 64 ∧ 1 ≤ N ∧ N ≤ 64 ∧ l0_2.length = M * N ∧ I + R ≤ M ∧ 1 ≤ R ∧ J + C ≤ N ∧ 1 ≤ C by omega)
        clear hM1 hM2 hN1 hN2 hl f1 f2
        go_enter Try.func12, Try.ntmps12
        go_wp2_with (first
          | (go_at_call 14; refine (shape_Check.calls M N _ _ l0_2 0 _ (Kd.C_below H0.out I0.out.1) HC.out HT.out).mono ?_; rintro e W1 ⟨rfl, hb1⟩; have I1 := Aside0.mk (I0.out.below hb1); obtain ⟨x0, x1, x2⟩ := matBox_cells I1.out.2.1; obtain ⟨z0, z1, z2⟩ := matBox_cells I1.out.2.2; have zf := blk_frozen I1.out.2.2; clear hb1)
          | (go_at_call 24; (with_reducible refine (mat_within.calls I R M true _ HW1.out).mono ?_); rintro e W2 ⟨rfl, hd2⟩; have I2 := Aside0.mk (I1.out.below hd2.below); obtain ⟨x0, x1, x2⟩ := matBox_cells I2.out.2.1; obtain ⟨z0, z1, z2⟩ := matBox_cells I2.out.2.2; have zf := blk_frozen I2.out.2.2; clear hd2)
          | (go_at_call 24; (with_reducible refine (mat_within.calls J C N true _ HW2.out).mono ?_); rintro e W3 ⟨rfl, hd3⟩; have I3 := Aside0.mk (I2.out.below hd3.below); obtain ⟨x0, x1, x2⟩ := matBox_cells I3.out.2.1; obtain ⟨z0, z1, z2⟩ := matBox_cells I3.out.2.2; have zf := blk_frozen I3.out.2.2; clear hd3))
        have J0 := Aside0.mk (I3.out.below (below_alloc (Below.refl _ W3) (.cells #[.int .i64 R, .int .i64 C, .slice none 0 0] 24)))
        have O0 := Aside0.mk (show CtOut w R C (W3.heap.size) ([] : List Int) (W3.alloc (.cells #[.int .i64 R, .int .i64 C, .slice none 0 0] 24)) from ⟨_, blk_new W3 _, Kd.R_nil _ _ _ _ _⟩)
        have NE : Aside0 (w.heap.size < W3.heap.size ∧ w.heap.size + 1 < W3.heap.size) := ⟨blk_lt I3.out.2.1, blk_lt I3.out.2.2⟩
        clear x0 x1 x2 z0 z1 z2 zf I0 I1 I2 I3
        generalize W3.heap.size = b13 at *
        go_loopg [40] R (fun hk v40 wc => ∃ (T : Nat), v40 = .int .i64 T ∧ Aside0 (T + hk = R) ∧ Aside0 (CtInv w M N (.slice A0_2 l0_2.length c0_2) wc) ∧ Aside0 (CtOut w R C b13 (matCutRows l0_2 N I J C T) wc))
        case atStart => exact ⟨0, rfl, ⟨by omega⟩, J0, O0⟩
        case round =>
          clear J0 O0
          obtain ⟨T, rfl, HJ, J1, O1⟩ := hrel
          by_cases hlt : (T : Int) < (R : Int)
          · have d0 : decide ((T : Int) < (R : Int)) = true := decide_eq_true hlt
            have HLT : Aside0 (T < R) := ⟨by omega⟩
            have d0n : decide (T < R) = true := decide_eq_true HLT.out
            clear hlt
            obtain ⟨v, hO, hR⟩ := O1.out
            obtain ⟨Aq, nq, rfl⟩ := Kd.R_slice hR
            have BO := Aside0.mk hO
            have HR := Aside0.mk hR
            have PL := Aside0.mk (place_le (I := I) (T := T) (M := M) (N := N) (by have := HN.out; have := HLT.out; omega))
            have PB : Aside0 (M * N ≤ 4096) := ⟨Nat.le_trans (Nat.mul_le_mul HN.out.2.1 HN.out.2.2.2.1) (by omega)⟩
            obtain ⟨L, hL⟩ : ∃ L, (I + T) * N = L := ⟨_, rfl⟩
            have HLE := Aside0.mk hL
            obtain ⟨IT, hIT⟩ : ∃ x, I + T = x := ⟨_, rfl⟩
            obtain ⟨JC, hJC⟩ : ∃ x, J + C = x := ⟨_, rfl⟩
            obtain ⟨H, hH⟩ : ∃ x, L + N = x := ⟨_, rfl⟩
            have w0 : wrap64 ((I : Int) + (T : Int)) = (IT : Int) := by have := HN.out; have := HLT.out; unfold wrap64; omega
            have HIT := Aside0.mk hIT
            have HJC := Aside0.mk hJC
            have HH := Aside0.mk hH
            have w3 : wrap64 ((J : Int) + (C : Int)) = (JC : Int) := by have := HN.out; unfold wrap64; omega
            obtain ⟨B1, hB1⟩ : ∃ B, A0_2.map (·.add L) = B := ⟨_, rfl⟩
            obtain ⟨B2, hB2⟩ : ∃ B, B1.map (·.add J) = B := ⟨_, rfl⟩
            obtain ⟨C1, hC1⟩ : ∃ x, c0_2 - L = x := ⟨_, rfl⟩
            obtain ⟨C2, hC2⟩ : ∃ x, C1 - J = x := ⟨_, rfl⟩
            have hsl : ∀ W : World, (Instr.slice 22 (.slice B1 N C1) (some (.int .i64 (J : Int))) (some (.int .i64 (JC : Int))) none).run Try.prog W = .ok (.slice B2 C C2) W := fun W => by
              rw [← hB2, ← hC2]
              exact slice_in B1 N C1 J C JC HJC.out (cut_bd HN.out.2.2.2.2.2.2.2.1 HJC.out) (by rw [← hC1]; exact cut_bc PL.out HLE.out HN.out.2.2.2.2.1 HC.out) HN.out.2.2.2.2.2.2.2.2 W
            have HB1 := Aside0.mk hB1
            have HB2 := Aside0.mk (show (A0_2.map (·.add L)).map (·.add J) = B2 by rw [hB1]; exact hB2)
            have HC1 := Aside0.mk hC1
            clear hB1 hB2 hC1 hC2
            have HLEN := Aside0.mk (cut_len HN.out HLT.out)
            clear hO hR O1 hL hIT hJC hH
            obtain ⟨x0, x1, x2⟩ := matBox_cells J1.out.2.1
            have y2 := (matBox_cells BO.out).2.2
            have yf := blk_frozen BO.out 2
            have w0' : IntKind.i64.wrap ((I : Int) + (T : Int)) = (IT : Int) := wrap_i64 w0
            have w3' : IntKind.i64.wrap ((J : Int) + (C : Int)) = (JC : Int) := wrap_i64 w3
            have hsl' : ∀ W : World, (Instr.slice 22 (.slice B1 N C1) (some (.int .i64 (J : Int))) (some (.int .i64 (IntKind.i64.wrap ((J : Int) + (C : Int))))) none).run Try.prog W = .ok (.slice B2 C C2) W := fun W => by rw [w3']; exact hsl W
            have HROW := Aside0.mk (mat_row_calls (M : Int) (N : Int) (IT : Int) L N H A0_2 B1 c0_2 C1 l0_2.length wr.drew HB1.out HC1.out (row_lo HIT.out HLE.out PL.out PB.out) (row_hi HIT.out HLE.out HH.out PL.out PB.out HN.out.2.2.2.1 HN.out.2.2.1) HH.out.symm HN.out.2.2.1 (row_le HLE.out HH.out PL.out HN.out.2.2.2.2.1) HC.out)
            have HBEH : Aside0 (∀ W5, Below wr.drew.heap.size wr.drew W5 → CtInv w M N (.slice A0_2 l0_2.length c0_2) W5 ∧ MatBox W5 b13 R C (.slice Aq (matCutRows l0_2 N I J C T).length nq) ∧ Kd.R (Kd.int .u64) 30 W5 w.heap.size (fun _ => True) (.slice Aq (matCutRows l0_2 N I J C T).length nq) (matCutRows l0_2 N I J C T) ∧ Kd.C (Kd.int .u64) W5 B2 C ((l0_2.drop (L + J)).take C)) := ⟨fun W5 hb => by
              have hb5 : Below wr.heap.size wr W5 := below_then (below_drew (Below.refl wr.heap.size wr)) (Nat.le_refl _) hb
              have J5 := J1.out.below hb5
              exact ⟨J5, blk_below BO.out hb5, Kd.R_below HR.out hb5, by rw [← HB2.out]; exact cut_C (Kd.C_below H0.out J5.1) L J C (cut_fit HLE.out PL.out HN.out.2.2.2.2.1 HN.out.2.2.2.2.2.2.2.1)⟩⟩
            have HAFT : Aside0 (∀ W5 v1 w1, CtInv w M N (.slice A0_2 l0_2.length c0_2) W5 → MatBox W5 b13 R C (.slice Aq (matCutRows l0_2 N I J C T).length nq) → Kd.R (Kd.int .u64) 30 W5 w.heap.size (fun _ => True) (.slice Aq (matCutRows l0_2 N I J C T).length nq) (matCutRows l0_2 N I J C T) → W5.grownBy w1 (Value.slice Aq (matCutRows l0_2 N I J C T).length nq).ownBlock → Kd.R (Kd.int .u64) 30 w1 w.heap.size (fun _ => True) v1 (matCutRows l0_2 N I J C T ++ (l0_2.drop (L + J)).take C) → ∃ A1 LEN n1, v1 = .slice A1 LEN n1 ∧ CtInv w M N (.slice A0_2 l0_2.length c0_2) w1 ∧ MatBox w1 b13 R C (.slice Aq (matCutRows l0_2 N I J C T).length nq)) := ⟨fun W5 v1 w1 J5 B5 R5 g1 R1 => by
              obtain ⟨A1, n1, rfl⟩ := Kd.R_slice R1
              exact ⟨A1, _, n1, rfl, J5.grown g1 R5, mb_grown B5 g1 R5⟩⟩
            go_wp2
            go_region_law (first
              | (refine goes_ (f := 25) Try.func25 (by kernel_rfl) rfl #[.agg #[.int .i64 (M : Int), .int .i64 (N : Int), .slice A0_2 l0_2.length c0_2], .int .i64 (IT : Int)] (by simp [Region.wanted]) rfl rfl (by first | rfl | (simp only [List.map_toArray, List.map_cons, List.map_nil, Act.eval]; simp [w0, w0'])) ?_; refine HROW.out.mono ?_; rintro e W5 ⟨rfl, hb5⟩; refine ⟨_, rfl, ?_⟩; obtain ⟨J5, B5, HR5, HC5⟩ := HBEH.out W5 hb5; have J5 := Aside0.mk J5; have B5 := Aside0.mk B5; have HR5 := Aside0.mk HR5; have HC5 := Aside0.mk HC5; obtain ⟨x0, x1, x2⟩ := matBox_cells J5.out.2.1; have y2 := (matBox_cells B5.out).2.2; have yf := blk_frozen B5.out 2; clear hb5)
              | (refine step_app (w0 := w) rfl (.tmp 44) (.tmp 54) 22 30 rfl Try.underlying22 info30 (v := .slice Aq (matCutRows l0_2 N I J C T).length nq) (xs := matCutRows l0_2 N I J C T) (ys := (l0_2.drop (L + J)).take C) (A := B2) (m := C) (c := C2) rfl rfl HR5.out HC5.out J5.out.1 (len_fit HLEN.out) ?_; intro v1 w1 hR1 hB1 hg1; obtain ⟨A1, LEN, n1, rfl, J6, B6⟩ := HAFT.out W5 v1 w1 J5.out B5.out HR5.out hg1 hR1; have HR6 := Aside0.mk hR1; have J6 := Aside0.mk J6; have B6 := Aside0.mk B6; have r2 := (matBox_cells B6.out).2.2; have rf := blk_frozen B6.out 2; clear hR1 hB1 hg1))
            all_goals
              go_wp2
              go_roundg (gk - 1)
              case measure => exact cut_m HJ.out HLT.out
              case rel => exact ⟨T + 1, by rw [cut_s HLT.out HN.out], ⟨cut_r HJ.out HLT.out⟩, ⟨J6.out.put NE.out.1 NE.out.2 2 _⟩, ⟨_, blk_put B6.out 2 _ rfl, by rw [show matCutRows l0_2 N I J C (T + 1) = matCutRows l0_2 N I J C T ++ (l0_2.drop (L + J)).take C by rw [← HLE.out]; rfl]; exact R_put24 HR6.out B6.out⟩⟩
          · have d0 : decide ((T : Int) < (R : Int)) = false := decide_eq_false hlt
            have d0n : decide (T < R) = false := decide_eq_false (by omega)
            have eT : T = R := by have := HJ.out; omega
            have O2 : CtOut w R C b13 (matCutRows l0_2 N I J C R) wr := eT ▸ O1.out
            obtain ⟨v, hO, hR⟩ := O2
            clear eT
            obtain ⟨Aq, nq, rfl⟩ := Kd.R_slice hR
            have BO := Aside0.mk hO
            have HR := Aside0.mk hR
            clear hlt hO hR O1
            obtain ⟨y0, y1, y2⟩ := matBox_cells BO.out
            obtain ⟨z0, z1, z2⟩ := matBox_cells J1.out.2.2
            have zf := blk_frozen J1.out.2.2
            go_wp2
            refine bodyPost_ret (results_ct rfl _ _ (w.heap.size + 1) 24 #[.int .i64 R, .int .i64 C, .slice Aq (matCutRows l0_2 N I J C R).length nq] (0, 0) _ rfl (put3_box J1.out.2.2 R C (.slice Aq (matCutRows l0_2 N I J C R).length nq)) Try.underlying24 rfl (by kernel_rfl)) rfl ?_
            exact ⟨_, rfl, put3_R HR.out J1.out.2.2, put3_below J1.out.1 (by omega) _ _ _⟩
  · rw [if_neg ht0] at h
    simp only [Option.some.injEq, Prod.mk.injEq] at h
    obtain ⟨rfl, rfl, rfl, rfl⟩ := h
    have c5b1 : (t != 0) = true := bne_iff_ne.mpr ht0
    clear ht0
    go_enter Try.func12, Try.ntmps12
    go_wp2_with (first
      | (go_at_call 14; refine (shape_Check.calls a0_0 a0_1 _ _ l0_2 t _ (Kd.C_below H0.out I0.out.1) HC.out HT.out).mono ?_; rintro e W1 ⟨rfl, hb1⟩; have I1 := Aside0.mk (I0.out.below hb1); obtain ⟨x0, x1, x2⟩ := matBox_cells I1.out.2.1; obtain ⟨z0, z1, z2⟩ := matBox_cells I1.out.2.2; have zf := blk_frozen I1.out.2.2; clear hb1))
    refine bodyPost_ret (results_ct rfl _ _ (w.heap.size + 1) 24 #[.int .i64 0, .int .i64 0, .slice none 0 0] (0, 0) _ rfl (put3_box (show MatBox _ (w.heap.size + 1) 0 0 (.slice none 0 0) from I1.out.2.2) 0 0 (.slice none 0 0)) Try.underlying24 rfl (by kernel_rfl)) rfl ?_
    exact ⟨_, rfl, Kd.R_nil _ _ _ _ _, put3_below (I1.out.1) (by omega) _ _ _⟩

/-! ### slices_Clone_uint64_uint64: function 26 -/
def slices_Clone_uint64_uint64.f (l0 : List Int) : Option (List Int) := if l0.length < 17592186044416 then some l0 else none
set_option maxHeartbeats 8000000 in
set_option maxRecDepth 100000 in
theorem slices_Clone_uint64_uint64.calls (A0 : Option Addr) (c0 : Nat) (l0 : List Int) (r : List Int) (w : World) (hr0 : Kd.C (Kd.int .u64) w A0 l0.length l0) (hc0 : l0.length ≤ c0) (h : slices_Clone_uint64_uint64.f l0 = some r) :
    Calls Try.prog 26 #[.slice A0 l0.length c0] w fun e w' => ∃ v0_ : Value, e = .returned (v0_) ∧ Kd.R (Kd.int .u64) 30 w' w.heap.size (fun _ => True) v0_ r ∧ Below w.heap.size w w' := by
  have q22 : ∀ (w : World) (a : Option Addr) (n c n' c' : Nat), (binOp .eql 22 (.slice a n c) (.slice none n' c')).run Try.prog w = .ok (.bool a.isNone) w := fun w a n c n' c' => Lib.run_eql_slice_nil w _ _ a n c n' c' Try.underlying22
  have HR0 := Aside0.mk hr0
  have HC0 := Aside0.mk hc0
  clear hr0 hc0
  have HB := Aside0.mk (Below.refl w.heap.size w)
  unfold slices_Clone_uint64_uint64.f at h
  by_cases c2 : l0.length < 17592186044416
  · rw [if_pos c2] at h
    have LMc2 := Aside0.mk c2
    clear c2
    obtain rfl := Option.some.inj h
    clear h
    cases A0 with
    | none =>
      have hz : l0 = [] := by
        have := HR0.out
        cases l0 with
        | nil => rfl
        | cons x xs => obtain ⟨ad, e1, _⟩ := Kd.at_int HR0.out 0 (by omega) (by simp); cases e1
      subst hz
      go_enter Try.func26, Try.ntmps26
      go_wp2
      go_ret
      exact ⟨_, rfl, Kd.R_nil _ _ _ _ _, by repeat (first | (with_reducible first | exact HB.out | apply below_alloc | apply pw_below_drewN | apply below_drew1) | exact HB.out)⟩
    | some ad0 =>
      obtain ⟨y122, hy122⟩ : ∃ y_ : List Int, y_ = (([] : List Int)) := ⟨_, rfl⟩
      obtain ⟨y125, hy125⟩ : ∃ y_ : List Int, y_ = (y122 ++ l0) := ⟨_, rfl⟩
      have LM2 : Aside0 (y122.length + l0.length < 17592186044416) := ⟨by rw [hy122]; simpa using LMc2.out⟩
      have E125 : Aside0 (y125 = l0) := ⟨by rw [hy125, hy122]; rfl⟩
      have Ny122 := Aside0.mk hy122
      have Ny125 := Aside0.mk hy125
      clear hy122 hy125
      go_enter Try.func26, Try.ntmps26
      go_wp2_with (first | ((with_reducible refine gate_dst (N := 5) rfl ?_); refine Kd.R_lit (Kd.int .u64) _ 30 ?hg (N := 5) ?hd (xs := ([] : List Int)) (inner := []) (ok := fun _ => True) (okp := fun _ => True) ?hr ?hp (fun _ hk => hk) trivial (Below.refl _ _) (Nat.le_refl _) (by simp) ?_; (case hd => rfl); (case hg => rfl); (case hr => first | (go_simp; done) | (go_simp; rfl)); (case hp => exact (Reps.none _ _)); intro v123 w3 ho4 hb hg_ hnew_; clear hg_ hnew_; (first | rw [← Ny122.out] at ho4 | (simp only [Int.reduceToNat] at ho4; rw [← Ny122.out] at ho4)); have n0_ := Aside0.mk (Kd.R_lower ho4 (below_size (by repeat (first | (with_reducible first | exact HB.out | apply below_alloc | apply pw_below_drewN | apply below_drew1) | exact HB.out)))); have n1_ := Aside0.mk (below_step (by repeat (first | (with_reducible first | exact HB.out | apply below_alloc | apply pw_below_drewN | apply below_drew1) | exact HB.out)) hb); clear HB; have HO124 := n0_; have HB := n1_; clear n0_ n1_; clear hb ho4) | ((with_reducible refine gate_builtin (b := .append) (xs := #[.tmp 5, .tmp 6]) rfl ?_); at_builtin; refine Kd.R_append_rows (Kd.int .u64) (w0 := w) w.heap.size rfl (.tmp 5) (.tmp 6) 22 30 (.int .u64 0) 8 rfl Try.underlying22 info30 rfl (by decide) (by omega) v123 y122 l0 _ _ _ (fun _ => True) (fun _ => False) rfl rfl ?aO ?aR (fun _ _ h => h) (fun _ h => h.elim) ?aF ?aB ?aS ?aL ?_; (case aR => repeat (first | exact (Kd.C_below HR0.out HB.out) | (with_reducible refine Kd.C_alloc ?_ _) | (with_reducible refine Kd.C_drewN ?_ _) | (with_reducible refine Kd.C_drew ?_))); (case aB => exact (by repeat (first | (with_reducible first | exact HB.out | apply below_alloc | apply pw_below_drewN | apply below_drew1) | exact HB.out))); (case aF => exact (fun _ _ => trivial)); (case aO => exact (by (with_reducible repeat (first | apply Kd.R_alloc | apply Kd.R_drewN | apply Kd.R_drew)); exact HO124.out)); (case aS => exact (below_size (by repeat (first | (with_reducible first | exact HB.out | apply below_alloc | apply pw_below_drewN | apply below_drew1) | exact HB.out)))); (case aL => have := LM2.out; omega); intro v126 w5 ho hb hg hat; rw [← Ny125.out] at ho; have n0_ := Aside0.mk (hb); have n1_ := Aside0.mk (ho); clear HB; clear HO124; have HB := n0_; have HO127 := n1_; clear n0_ n1_; clear ho hb hg hat))
      go_ret
      rw [E125.out] at HO127
      exact ⟨_, by first | rfl | (simp; done) | (simp [*]; done), by (with_reducible repeat (first | apply Kd.R_alloc | apply Kd.R_drewN | apply Kd.R_drew)); exact HO127.out, by repeat (first | (with_reducible first | exact HB.out | apply below_alloc | apply pw_below_drewN | apply below_drew1) | exact HB.out)⟩
  · rw [if_neg c2] at h
    cases h

/-! ### mat_Paste: function 13 -/
theorem copy_atD {P : Program} {W : World} {base g cap : Nat} {ok : Nat → Prop} {xs ys : List Int} {o m c dCap : Nat} {A : Option Addr} {t t' ty e : TypeId} (ht : P.underlying t = some (.slice e)) (hinfo : (P.info? e).map (·.size) = some 1)
    (HO : Kd.R (Kd.int .u64) e W base ok (.slice (some ⟨g, 0, none⟩) xs.length cap) xs) (HR : Kd.C (Kd.int .u64) W A m ys) (hfit : o + m ≤ xs.length) (hp : 0 < xs.length) {D : Nat} (hD : m ≤ D) :
    ∃ w1, (Builtin.copy_ #[t, t'] ty #[.slice (some ⟨g, o, none⟩) D dCap, .slice A m c]).run P W = .ok (goInt m) w1 ∧ Kd.R (Kd.int .u64) e w1 base ok (.slice (some ⟨g, 0, none⟩) xs.length cap) (xs.take o ++ ys ++ xs.drop (o + m)) ∧ W.grownBy w1 (some g) := by
  have hR := Kd.reads_of_C (enc := Value.int .u64) (d := (0 : Int)) (h1 := fun _ => rfl) HR
  have hm : ys.length = m := hR.1
  have hown := Kd.own_of_R HO
  have hln : (xs.take o ++ ys ++ xs.drop (o + m)).length = xs.length := by
    rw [List.length_append, List.length_append, List.length_take, List.length_drop]; omega
  rcases Nat.eq_zero_or_pos m with h0 | hpos
  · obtain rfl : ys = [] := List.eq_nil_of_length_eq_zero (by omega)
    subst h0
    refine ⟨W, ?_, ?_, World.grownBy.refl W _⟩
    · exact run_copy_none W t t' ty e _ A _ _ 0 c ht hinfo (Nat.zero_min _)
    · rw [Nat.add_zero, List.append_nil, List.take_append_drop]; exact HO
  · obtain ⟨ad, hA, hc⟩ := hR.2.2 hpos
    rcases hown.2 with ⟨hv, _⟩ | ⟨g', cap', cur, hv, hb, hh, hnc, hcm, hcs, htake⟩
    · cases hv
    have hgg : g' = g ∧ cap' = cap := by
      injection hv with h1 h2 h3
      injection h1 with h1
      injection h1 with h1
      exact ⟨h1.symm, h3.symm⟩
    obtain ⟨rfl, rfl⟩ := hgg
    have hcs1 : cur.size = cap' := by omega
    have hkl : (encs (Value.int .u64) ys).length = m := by rw [encs_length, hm]
    have hsrc : ∀ j u, (encs (Value.int .u64) ys)[j]? = some u → W.cell? (ad.add j) = some u := by
      intro j u hu
      have hj : j < ys.length := by
        rcases Nat.lt_or_ge j ys.length with h | h
        · exact h
        · rw [List.getElem?_eq_none (by rw [encs_length]; exact h)] at hu
          cases hu
      rw [encs_get (d := (0 : Int)) _ j hj] at hu
      rw [hc j (by omega), ← hu]
    have hr := run_copy_cells (P := P) W t t' ty e g' o D dCap ad m c (encs (Value.int .u64) ys) ht hinfo (by rw [hkl]; exact (Nat.min_eq_left (by omega)).symm) hsrc
      (fun j hj => by rw [cell_of_row W g' _ cur e (0, 0) hh]; simp; omega) (fun j _ => blk_frozen hh _) (by intro u hu; simp only [encs, List.mem_map] at hu; obtain ⟨q, _, rfl⟩ := hu; rfl)
    obtain ⟨cur', h3, h4, h5⟩ := setCells_row (encs (Value.int .u64) ys) o W cur hh (by rw [hkl]; omega)
    obtain ⟨s1, s2, s3, s4⟩ := setCells_same g' (encs (Value.int .u64) ys) o W
    refine ⟨_, by rw [hA, hr, hkl], Kd.R_of_own ?_ HO.1, ⟨s1, s2, s3, by rw [s4]; exact Nat.le_refl _, fun k _ hk => setCells_far _ _ k (fun he => hk (by rw [he]))⟩⟩
    rw [hln]
    refine ⟨by rw [encs_length, hln, Nat.mul_one], .inr ⟨g', cap', cur', hv, hb, h3, hnc, hcm, by rw [h4, hcs], ?_⟩⟩
    have htk : cur.toList.take xs.length = encs (Value.int .u64) xs := by rw [← htake, Nat.mul_one]
    rw [h5, hkl, Nat.mul_one, encs_append, encs_append]
    have e1 : encs (Value.int .u64) (xs.take o) = cur.toList.take o := by
      rw [show encs (Value.int .u64) (xs.take o) = (encs (Value.int .u64) xs).take o by simp [encs, List.map_take], ← htk, List.take_take, Nat.min_eq_left (by omega)]
    have e2 : encs (Value.int .u64) (xs.drop (o + m)) = (cur.toList.take xs.length).drop (o + m) := by
      rw [htk]; simp [encs, List.map_drop]
    rw [e1, e2, List.drop_take, List.take_append, List.take_of_length_le (by rw [List.length_append, List.length_take, hkl]; omega)]
    congr 1
    rw [List.length_append, List.length_take, hkl, Nat.min_eq_left (by simp; omega)]
theorem step_copy_D {P : Program} {ops : Array Oper} {o : Oper} {a : Act} {w : World} {K : Act → World → Prop} {Q : Exit → Act → World → Prop} {E : Prop} (hgd : o.guard = none) (d s : Operand) (t t' e : TypeId)
    (ho : o.op = .call { callee := .builtin .copy, args := #[d, s], argTypes := #[t, t'] }) (ht : P.underlying t = some (.slice e)) (hinfo : (P.info? e).map (·.size) = some 1)
    {base g cap : Nat} {ok : Nat → Prop} {xs ys : List Int} {f m c dCap D : Nat} {A : Option Addr} (hd : a.eval d = .slice (some ⟨g, f, none⟩) D dCap) (hs : a.eval s = .slice A m c)
    (HO : Kd.R (Kd.int .u64) e w base ok (.slice (some ⟨g, 0, none⟩) xs.length cap) xs) (HR : Kd.C (Kd.int .u64) w A m ys) (hfit : f + m ≤ xs.length) (hp : 0 < xs.length) (hD : m ≤ D)
    (h : ∀ w1, Kd.R (Kd.int .u64) e w1 base ok (.slice (some ⟨g, 0, none⟩) xs.length cap) (xs.take f ++ ys ++ xs.drop (f + m)) → w.grownBy w1 (some g) → K (a.put o.dst (goInt m)) w1) :
    if Region.wanted o (yielded ops a.tmps) = true then Oper.wp P o a w K Q else E := by
  have hw : Region.wanted o (yielded ops a.tmps) = true := by simp [Region.wanted, hgd]
  rw [if_pos hw]
  obtain ⟨w1, hr, h1, h2⟩ := copy_atD (t' := t') (c := c) (dCap := dCap) (ty := o.type) ht hinfo HO HR hfit hp hD
  unfold Oper.wp execOp
  simp only [ho, resolve, invoke, builtin, Sem.run_bind, Sem.run_pure, Result.andThen_ok, List.map_toArray, List.map_cons, List.map_nil, hd, hs, hr]
  exact h w1 h1 h2
def matPasteRows (l : List Int) (n n2 : Nat) (b : List Int) (i j : Nat) : Nat → List Int
  | 0 => l
  | t + 1 => (matPasteRows l n n2 b i j t).take ((i + t) * n + j) ++ (b.drop (t * n2)).take n2 ++ (matPasteRows l n n2 b i j t).drop ((i + t) * n + j + n2)
def mat_Paste.f (a0_0 : Int) (a0_1 : Int) (l0_2 : List Int) (a1_0 : Int) (a1_1 : Int) (l1_2 : List Int) (a2 : Int) (a3 : Int) : Option (Int × Int × List Int × Int) := (shape_Check.f a0_0 a0_1 l0_2).bind fun t => if t = 0 then ((shape_Check.f a1_0 a1_1 l1_2).bind fun t2 => if t2 = 0 then ((mat_within.f a2 a1_0 a0_0).bind fun b => if b = true then ((mat_within.f a3 a1_1 a0_1).bind fun b2 => if b2 = true then some (a0_0, a0_1, matPasteRows l0_2 a0_1.toNat a1_1.toNat l1_2 a2.toNat a3.toNat a1_0.toNat, 0) else some (0, 0, ([] : List Int), 4)) else some (0, 0, ([] : List Int), 4)) else some (0, 0, ([] : List Int), t2)) else some (0, 0, ([] : List Int), t)
theorem pasteRows_len (l : List Int) (n n2 : Nat) (b : List Int) (i j : Nat) : ∀ t, (∀ q, q < t → (i + q) * n + j + n2 ≤ l.length ∧ q * n2 + n2 ≤ b.length) → (matPasteRows l n n2 b i j t).length = l.length
  | 0, _ => rfl
  | t + 1, h => by
    have ih := pasteRows_len l n n2 b i j t (fun q hq => h q (by omega))
    have h1 := h t (by omega)
    simp only [matPasteRows, List.length_append, List.length_take, List.length_drop, ih]
    omega
def PsInv (w : World) (m n m2 n2 : Int) (u v : Value) (W : World) : Prop := Below w.heap.size w W ∧ MatBox W w.heap.size m n u ∧ MatBox W (w.heap.size + 1) m2 n2 v ∧ MatBox W (w.heap.size + 2) 0 0 (.slice none 0 0)
theorem PsInv.below {w : World} {m n m2 n2 : Int} {u v : Value} {W W' : World} (h : PsInv w m n m2 n2 u v W) (k : Below W.heap.size W W') : PsInv w m n m2 n2 u v W' := ⟨below_then h.1 h.1.size k, blk_below h.2.1 k, blk_below h.2.2.1 k, blk_below h.2.2.2 k⟩
theorem PsInv.start (w : World) (m n m2 n2 : Int) (u v : Value) : PsInv w m n m2 n2 u v (((w.alloc (.cells #[.int .i64 m, .int .i64 n, u] 24)).alloc (.cells #[.int .i64 m2, .int .i64 n2, v] 24)).alloc (.cells #[.int .i64 0, .int .i64 0, .slice none 0 0] 24)) := by
  refine ⟨below_alloc (below_alloc (below_alloc (Below.refl _ w) _) _) _, blk_below (blk_below (blk_new w _) (below_alloc (Below.refl _ _) _)) (below_alloc (Below.refl _ _) _), ?_, ?_⟩
  · have h := blk_new (w.alloc (.cells #[.int .i64 m, .int .i64 n, u] 24)) (.cells #[.int .i64 m2, .int .i64 n2, v] 24)
    rw [World.size_alloc] at h
    exact blk_below h (below_alloc (Below.refl _ _) _)
  · have h := blk_new ((w.alloc (.cells #[.int .i64 m, .int .i64 n, u] 24)).alloc (.cells #[.int .i64 m2, .int .i64 n2, v] 24)) (.cells #[.int .i64 0, .int .i64 0, .slice none 0 0] 24)
    rw [World.size_alloc, World.size_alloc] at h
    exact h
theorem PsInv.grown {w : World} {m n m2 n2 : Int} {u v x : Value} {xs : List Int} {W W' : World} (h : PsInv w m n m2 n2 u v W) (g : W.grownBy W' x.ownBlock) (hx : Kd.R (Kd.int .u64) 30 W w.heap.size (fun _ => True) x xs) : PsInv w m n m2 n2 u v W' := ⟨h.1.grown g h.1.size (Kd.R_base hx), mb_grown h.2.1 g hx, mb_grown h.2.2.1 g hx, mb_grown h.2.2.2 g hx⟩
theorem PsInv.put {w : World} {m n m2 n2 : Int} {u v : Value} {W : World} {b : Nat} (h : PsInv w m n m2 n2 u v W) (hb : w.heap.size + 2 < b) (i : Nat) (x : Value) : PsInv w m n m2 n2 u v (W.setCell ⟨b, i, none⟩ x) :=
  ⟨h.1.setCell (p := ⟨b, i, none⟩) (show w.heap.size ≤ b by omega) _, (Below.heap_setCell W _ _ _ (show w.heap.size ≠ b by omega)).trans h.2.1, (Below.heap_setCell W _ _ _ (show w.heap.size + 1 ≠ b by omega)).trans h.2.2.1, (Below.heap_setCell W _ _ _ (show w.heap.size + 2 ≠ b by omega)).trans h.2.2.2⟩
theorem slice_from (g L N c J D C2 F : Nat) (hF : L + J = F) (h1 : J < N) (h2 : N ≤ c) (hD : N - J = D) (hC : c - J = C2) (W : World) : (Instr.slice 22 (.slice (some ⟨g, L, none⟩) N c) (some (.int .i64 (J : Int))) none none).run Try.prog W = .ok (.slice (some ⟨g, F, none⟩) D C2) W := by
  obtain ⟨i0, hi, hz⟩ := Option.map_eq_some_iff.1 info30
  simp only [Prod.mk.injEq] at hz
  have hel : Try.prog.elem 22 = 30 := by simp [Program.elem, Try.underlying22]
  have hu : Try.prog.underlying 22 = some (.slice (Try.prog.elem 22)) := by rw [hel]; exact Try.underlying22
  rw [run_slice_l W 22 _ N c hu .i64 (J : Int) (by omega) (by omega), hel]
  have hne : ¬ c = J := by omega
  have ha : (⟨g, L, none⟩ : Addr).add J = ⟨g, F, none⟩ := by rw [← hF]; exact add_at g L J
  simp [sizeOf, typeInfo, hi, hz.2.1, sliced, Result.andThen, hne, ha, hD, hC]
theorem row_in {w : World} {A : Option Addr} {l : List Int} (h : Kd.C (Kd.int .u64) w A l.length l) (L C : Nat) (hb : L + C ≤ l.length) {B : Option Addr} (hB : A.map (·.add L) = B) : Kd.C (Kd.int .u64) w B C ((l.drop L).take C) := by
  have h1 := cut_C h L 0 C (by omega)
  rw [hB] at h1
  have e : B.map (·.add 0) = B := by cases B <;> simp [Addr.add]
  rw [e] at h1
  exact h1
theorem row_lo2 {T N2 L2 M2 : Nat} (h2 : T * N2 = L2) (hT : T < M2) (h5 : M2 * N2 ≤ 4096) : wrap64 ((T : Int) * (N2 : Int)) = (L2 : Int) := by
  have := Nat.mul_le_mul_right N2 (Nat.le_of_lt hT)
  rw [← Int.natCast_mul, h2]
  unfold wrap64; omega
theorem row_hi2 {T N2 L2 H2 M2 : Nat} (h2 : T * N2 = L2) (h3 : L2 + N2 = H2) (hT : T < M2) (h5 : M2 * N2 ≤ 4096) (h6 : M2 ≤ 64) : wrap64 (wrap64 ((T : Int) + 1) * (N2 : Int)) = (H2 : Int) := by
  have e1 := Nat.mul_le_mul_right N2 (show T + 1 ≤ M2 from hT)
  rw [Nat.add_mul, Nat.one_mul, h2, h3] at e1
  have e2 : wrap64 ((T : Int) + 1) = ((T + 1 : Nat) : Int) := by unfold wrap64; omega
  rw [e2, ← Int.natCast_mul, Nat.add_mul, Nat.one_mul, h2, h3]
  unfold wrap64; omega
theorem row_le2 {T N2 L2 H2 M2 : Nat} {l : List Int} (h2 : T * N2 = L2) (h3 : L2 + N2 = H2) (hT : T < M2) (hl : l.length = M2 * N2) : H2 ≤ l.length := by
  have e1 := Nat.mul_le_mul_right N2 (show T + 1 ≤ M2 from hT)
  rw [Nat.add_mul, Nat.one_mul, h2, h3] at e1
  omega
structure PsN (M N M2 N2 I J : Nat) (l l2 : List Int) : Prop where
  m1 : 1 ≤ M
  m2 : M ≤ 64
  n1 : 1 ≤ N
  n2 : N ≤ 64
  len : l.length = M * N
  m21 : 1 ≤ M2
  n21 : 1 ≤ N2
  len2 : l2.length = M2 * N2
  fi : I + M2 ≤ M
  fj : J + N2 ≤ N
theorem PsN.mn {M N M2 N2 I J : Nat} {l l2 : List Int} (h : PsN M N M2 N2 I J l l2) : M * N ≤ 4096 := Nat.le_trans (Nat.mul_le_mul h.m2 h.n2) (by omega)
theorem PsN.mn2 {M N M2 N2 I J : Nat} {l l2 : List Int} (h : PsN M N M2 N2 I J l l2) : M2 * N2 ≤ 4096 := by
  have h1 := h.m2
  have h2 := h.n2
  have h3 := h.fi
  have h4 := h.fj
  exact Nat.le_trans (Nat.mul_le_mul (show M2 ≤ 64 by omega) (show N2 ≤ 64 by omega)) (by omega)
theorem PsN.place {M N M2 N2 I J T : Nat} {l l2 : List Int} (h : PsN M N M2 N2 I J l l2) (hT : T < M2) : (I + T) * N + N ≤ M * N := place_le (by have := h.fi; omega)
theorem PsN.place2 {M N M2 N2 I J T : Nat} {l l2 : List Int} (h : PsN M N M2 N2 I J l l2) (hT : T < M2) : T * N2 + N2 ≤ l2.length := by
  have e1 := Nat.mul_le_mul_right N2 (show T + 1 ≤ M2 from hT)
  rw [Nat.add_mul, Nat.one_mul] at e1
  have := h.len2
  omega
theorem PsN.rows {M N M2 N2 I J T : Nat} {l l2 : List Int} (h : PsN M N M2 N2 I J l l2) (hT : T ≤ M2) : (matPasteRows l N N2 l2 I J T).length = l.length :=
  pasteRows_len l N N2 l2 I J T (fun q hq => ⟨by have := h.place (T := q) (by omega); have := h.fj; have := h.len; omega, h.place2 (by omega)⟩)
theorem ps_w0 {M N M2 N2 I J T IT : Nat} {l l2 : List Int} (h : PsN M N M2 N2 I J l l2) (hT : T < M2) (e : I + T = IT) : wrap64 ((I : Int) + (T : Int)) = (IT : Int) := by
  have := h.m2
  have := h.fi
  unfold wrap64; omega
theorem ps_m2 {M N M2 N2 I J : Nat} {l l2 : List Int} (h : PsN M N M2 N2 I J l l2) : M2 ≤ 64 := by
  have := h.m2
  have := h.fi
  omega
theorem ps_jn {M N M2 N2 I J : Nat} {l l2 : List Int} (h : PsN M N M2 N2 I J l l2) : J < N := by
  have := h.n21
  have := h.fj
  omega
theorem ps_nc {M N M2 N2 I J T L C1 cp : Nat} {l l2 : List Int} (h : PsN M N M2 N2 I J l l2) (hT : T < M2) (hL : (I + T) * N = L) (hC : cp - L = C1) (hcp : l.length ≤ cp) : N ≤ C1 := by
  have := h.place hT
  have := h.len
  omega
theorem ps_fit {M N M2 N2 I J T L F D : Nat} {l l2 : List Int} (h : PsN M N M2 N2 I J l l2) (hT : T < M2) (hL : (I + T) * N = L) (hF : L + J = F) (hD : N - J = D) : F + N2 ≤ l.length ∧ 0 < l.length ∧ N2 ≤ D := by
  have := h.place hT
  have := h.len
  have := h.fj
  have := h.n1
  omega
theorem ps_s {M N M2 N2 I J T : Nat} {l l2 : List Int} (h : PsN M N M2 N2 I J l l2) (hT : T < M2) : wrap64 ((T : Int) + 1) = ((T + 1 : Nat) : Int) := by
  have := ps_m2 h
  unfold wrap64; omega
set_option maxHeartbeats 8000000 in
set_option maxRecDepth 100000 in
theorem mat_Paste.calls (a0_0 : Int) (a0_1 : Int) (A0_2 : Option Addr) (c0_2 : Nat) (l0_2 : List Int) (a1_0 : Int) (a1_1 : Int) (A1_2 : Option Addr) (c1_2 : Nat) (l1_2 : List Int) (a2 : Int) (a3 : Int) (r1 : Int) (r2 : Int) (r3 : List Int) (r4 : Int) (w : World) (hr0_2 : Kd.C (Kd.int .u64) w A0_2 l0_2.length l0_2) (hc0_2 : l0_2.length ≤ c0_2) (hr1_2 : Kd.C (Kd.int .u64) w A1_2 l1_2.length l1_2) (hc1_2 : l1_2.length ≤ c1_2) (h : mat_Paste.f a0_0 a0_1 l0_2 a1_0 a1_1 l1_2 a2 a3 = some (r1, r2, r3, r4)) :
    Calls Try.prog 13 #[.agg #[.int .i64 a0_0, .int .i64 a0_1, .slice A0_2 l0_2.length c0_2], .agg #[.int .i64 a1_0, .int .i64 a1_1, .slice A1_2 l1_2.length c1_2], .int .i64 a2, .int .i64 a3] w fun e w' => ∃ v2_ : Value, e = .returned (.tuple #[.agg #[.int .i64 r1, .int .i64 r2, v2_], .int .i64 r4]) ∧ Kd.R (Kd.int .u64) 30 w' w.heap.size (fun _ => True) v2_ r3 ∧ Below w.heap.size w w' := by
  have hu36 := Try.underlying24
  have ix0 : ∀ w, (Instr.index 48 (.agg #[.int .i64 a0_0, .int .i64 a0_1, .slice A0_2 l0_2.length c0_2, .int .i64 a1_0, .int .i64 a1_1, .slice A1_2 l1_2.length c1_2]) (.int .i64 0)).run Try.prog w = .ok (.agg #[.int .i64 a0_0, .int .i64 a0_1, .slice A0_2 l0_2.length c0_2]) w := fun _ => by kernel_rfl
  have ix1 : ∀ w, (Instr.index 48 (.agg #[.int .i64 a0_0, .int .i64 a0_1, .slice A0_2 l0_2.length c0_2, .int .i64 a1_0, .int .i64 a1_1, .slice A1_2 l1_2.length c1_2]) (.int .i64 1)).run Try.prog w = .ok (.agg #[.int .i64 a1_0, .int .i64 a1_1, .slice A1_2 l1_2.length c1_2]) w := fun _ => by kernel_rfl
  have H0 := Aside0.mk hr0_2
  have HC0 := Aside0.mk hc0_2
  have H1 := Aside0.mk hr1_2
  have HC1 := Aside0.mk hc1_2
  have I0 := Aside0.mk (PsInv.start w a0_0 a0_1 a1_0 a1_1 (.slice A0_2 l0_2.length c0_2) (.slice A1_2 l1_2.length c1_2))
  clear hr0_2 hc0_2 hr1_2 hc1_2
  unfold mat_Paste.f at h
  obtain ⟨t, ht, h⟩ := Option.bind_eq_some_iff.1 h
  have HT := Aside0.mk ht
  clear ht
  by_cases ht0 : t = 0
  · subst ht0
    rw [if_pos rfl] at h
    obtain ⟨t2, ht, h⟩ := Option.bind_eq_some_iff.1 h
    have HT2 := Aside0.mk ht
    clear ht
    by_cases ht0 : t2 = 0
    · subst ht0
      rw [if_pos rfl] at h
      obtain ⟨b, hb, h⟩ := Option.bind_eq_some_iff.1 h
      have HW1 := Aside0.mk hb
      clear hb
      cases b with
      | false =>
        rw [if_neg (by decide)] at h
        simp only [Option.some.injEq, Prod.mk.injEq] at h
        obtain ⟨rfl, rfl, rfl, rfl⟩ := h
        go_enter Try.func13, Try.ntmps13
        go_wp2
        go_loopg [18] 2 (fun hk v18 wc => ∃ (j : Int), v18 = .int .i64 j ∧ Aside0 (0 ≤ j ∧ j + hk = 2) ∧ Aside0 (PsInv w a0_0 a0_1 a1_0 a1_1 (.slice A0_2 l0_2.length c0_2) (.slice A1_2 l1_2.length c1_2) wc))
        case atStart => exact ⟨0, rfl, ⟨by omega, by omega⟩, I0⟩
        case round =>
          clear I0
          obtain ⟨j, rfl, HJ, I1⟩ := hrel
          have hj : j = 0 ∨ j = 1 ∨ j = 2 := by have := HJ.out; omega
          rcases hj with rfl | rfl | rfl
          · go_wp2_with (first | (go_at_call 14; refine (shape_Check.calls a0_0 a0_1 _ _ l0_2 0 _ (Kd.C_below (Kd.C_below H0.out I1.out.1) (below_alloc (Below.refl _ _) (.cells #[.int .i64 a0_0, .int .i64 a0_1, .slice A0_2 l0_2.length c0_2] 24))) HC0.out HT.out).mono ?_; rintro e W2 ⟨rfl, hb2⟩; have I2 := Aside0.mk (I1.out.below (below_then (below_alloc (Below.refl _ wr) (.cells #[.int .i64 a0_0, .int .i64 a0_1, .slice A0_2 l0_2.length c0_2] 24)) (below_alloc (Below.refl _ wr) (.cells #[.int .i64 a0_0, .int .i64 a0_1, .slice A0_2 l0_2.length c0_2] 24)).size hb2)); obtain ⟨z0, z1, z2⟩ := matBox_cells I2.out.2.2.2; have zf := blk_frozen I2.out.2.2.2; clear hb2))
            go_roundg (gk - 1)
            case measure => have := HJ.out; omega
            case rel => exact ⟨1, rfl, ⟨by omega, by have := HJ.out; omega⟩, I2⟩
          · go_wp2_with (first | (go_at_call 14; refine (shape_Check.calls a1_0 a1_1 _ _ l1_2 0 _ (Kd.C_below (Kd.C_below H1.out I1.out.1) (below_alloc (Below.refl _ _) (.cells #[.int .i64 a1_0, .int .i64 a1_1, .slice A1_2 l1_2.length c1_2] 24))) HC1.out HT2.out).mono ?_; rintro e W2 ⟨rfl, hb2⟩; have I2 := Aside0.mk (I1.out.below (below_then (below_alloc (Below.refl _ wr) (.cells #[.int .i64 a1_0, .int .i64 a1_1, .slice A1_2 l1_2.length c1_2] 24)) (below_alloc (Below.refl _ wr) (.cells #[.int .i64 a1_0, .int .i64 a1_1, .slice A1_2 l1_2.length c1_2] 24)).size hb2)); obtain ⟨z0, z1, z2⟩ := matBox_cells I2.out.2.2.2; have zf := blk_frozen I2.out.2.2.2; clear hb2))
            go_roundg (gk - 1)
            case measure => have := HJ.out; omega
            case rel => exact ⟨2, rfl, ⟨by omega, by have := HJ.out; omega⟩, I2⟩
          · clear ix0 ix1
            obtain ⟨u0, u1, u2⟩ := matBox_cells I1.out.2.1
            obtain ⟨v0, v1, v2⟩ := matBox_cells I1.out.2.2.1
            obtain ⟨z0, z1, z2⟩ := matBox_cells I1.out.2.2.2
            have zf := blk_frozen I1.out.2.2.2
            go_wp2_with (first
              | (go_at_call 24; (with_reducible refine (mat_within.calls a2 a1_0 a0_0 false _ HW1.out).mono ?_); rintro e W3 ⟨rfl, hd3⟩; have I3 := Aside0.mk (I1.out.below hd3.below); obtain ⟨u0, u1, u2⟩ := matBox_cells I3.out.2.1; obtain ⟨v0, v1, v2⟩ := matBox_cells I3.out.2.2.1; obtain ⟨z0, z1, z2⟩ := matBox_cells I3.out.2.2.2; have zf := blk_frozen I3.out.2.2.2; clear hd3)
              )
            have F3 := put3_box I3.out.2.2.2 0 0 (.slice none 0 0)
            refine bodyPost_ret (results_ct rfl _ _ (w.heap.size + 2) 24 #[.int .i64 0, .int .i64 0, .slice none 0 0] (0, 0) _ rfl F3 Try.underlying24 rfl (by kernel_rfl)) rfl ?_
            refine ⟨_, rfl, Kd.R_nil _ _ _ _ _, ?_⟩
            exact put3_below I3.out.1 (Nat.le_add_right _ 2) _ _ _
      | true =>
        rw [if_pos rfl] at h
        obtain ⟨b, hb, h⟩ := Option.bind_eq_some_iff.1 h
        have HW2 := Aside0.mk hb
        clear hb
        cases b with
        | false =>
          rw [if_neg (by decide)] at h
          simp only [Option.some.injEq, Prod.mk.injEq] at h
          obtain ⟨rfl, rfl, rfl, rfl⟩ := h
          go_enter Try.func13, Try.ntmps13
          go_wp2
          go_loopg [18] 2 (fun hk v18 wc => ∃ (j : Int), v18 = .int .i64 j ∧ Aside0 (0 ≤ j ∧ j + hk = 2) ∧ Aside0 (PsInv w a0_0 a0_1 a1_0 a1_1 (.slice A0_2 l0_2.length c0_2) (.slice A1_2 l1_2.length c1_2) wc))
          case atStart => exact ⟨0, rfl, ⟨by omega, by omega⟩, I0⟩
          case round =>
            clear I0
            obtain ⟨j, rfl, HJ, I1⟩ := hrel
            have hj : j = 0 ∨ j = 1 ∨ j = 2 := by have := HJ.out; omega
            rcases hj with rfl | rfl | rfl
            · go_wp2_with (first | (go_at_call 14; refine (shape_Check.calls a0_0 a0_1 _ _ l0_2 0 _ (Kd.C_below (Kd.C_below H0.out I1.out.1) (below_alloc (Below.refl _ _) (.cells #[.int .i64 a0_0, .int .i64 a0_1, .slice A0_2 l0_2.length c0_2] 24))) HC0.out HT.out).mono ?_; rintro e W2 ⟨rfl, hb2⟩; have I2 := Aside0.mk (I1.out.below (below_then (below_alloc (Below.refl _ wr) (.cells #[.int .i64 a0_0, .int .i64 a0_1, .slice A0_2 l0_2.length c0_2] 24)) (below_alloc (Below.refl _ wr) (.cells #[.int .i64 a0_0, .int .i64 a0_1, .slice A0_2 l0_2.length c0_2] 24)).size hb2)); obtain ⟨z0, z1, z2⟩ := matBox_cells I2.out.2.2.2; have zf := blk_frozen I2.out.2.2.2; clear hb2))
              go_roundg (gk - 1)
              case measure => have := HJ.out; omega
              case rel => exact ⟨1, rfl, ⟨by omega, by have := HJ.out; omega⟩, I2⟩
            · go_wp2_with (first | (go_at_call 14; refine (shape_Check.calls a1_0 a1_1 _ _ l1_2 0 _ (Kd.C_below (Kd.C_below H1.out I1.out.1) (below_alloc (Below.refl _ _) (.cells #[.int .i64 a1_0, .int .i64 a1_1, .slice A1_2 l1_2.length c1_2] 24))) HC1.out HT2.out).mono ?_; rintro e W2 ⟨rfl, hb2⟩; have I2 := Aside0.mk (I1.out.below (below_then (below_alloc (Below.refl _ wr) (.cells #[.int .i64 a1_0, .int .i64 a1_1, .slice A1_2 l1_2.length c1_2] 24)) (below_alloc (Below.refl _ wr) (.cells #[.int .i64 a1_0, .int .i64 a1_1, .slice A1_2 l1_2.length c1_2] 24)).size hb2)); obtain ⟨z0, z1, z2⟩ := matBox_cells I2.out.2.2.2; have zf := blk_frozen I2.out.2.2.2; clear hb2))
              go_roundg (gk - 1)
              case measure => have := HJ.out; omega
              case rel => exact ⟨2, rfl, ⟨by omega, by have := HJ.out; omega⟩, I2⟩
            · clear ix0 ix1
              obtain ⟨u0, u1, u2⟩ := matBox_cells I1.out.2.1
              obtain ⟨v0, v1, v2⟩ := matBox_cells I1.out.2.2.1
              obtain ⟨z0, z1, z2⟩ := matBox_cells I1.out.2.2.2
              have zf := blk_frozen I1.out.2.2.2
              go_wp2_with (first
                | (go_at_call 24; (with_reducible refine (mat_within.calls a2 a1_0 a0_0 true _ HW1.out).mono ?_); rintro e W3 ⟨rfl, hd3⟩; have I3 := Aside0.mk (I1.out.below hd3.below); obtain ⟨u0, u1, u2⟩ := matBox_cells I3.out.2.1; obtain ⟨v0, v1, v2⟩ := matBox_cells I3.out.2.2.1; obtain ⟨z0, z1, z2⟩ := matBox_cells I3.out.2.2.2; have zf := blk_frozen I3.out.2.2.2; clear hd3)
                | (go_at_call 24; (with_reducible refine (mat_within.calls a3 a1_1 a0_1 false _ HW2.out).mono ?_); rintro e W4 ⟨rfl, hd4⟩; have I4 := Aside0.mk (I3.out.below hd4.below); obtain ⟨u0, u1, u2⟩ := matBox_cells I4.out.2.1; obtain ⟨v0, v1, v2⟩ := matBox_cells I4.out.2.2.1; obtain ⟨z0, z1, z2⟩ := matBox_cells I4.out.2.2.2; have zf := blk_frozen I4.out.2.2.2; clear hd4)
                )
              have F3 := put3_box I4.out.2.2.2 0 0 (.slice none 0 0)
              refine bodyPost_ret (results_ct rfl _ _ (w.heap.size + 2) 24 #[.int .i64 0, .int .i64 0, .slice none 0 0] (0, 0) _ rfl F3 Try.underlying24 rfl (by kernel_rfl)) rfl ?_
              refine ⟨_, rfl, Kd.R_nil _ _ _ _ _, ?_⟩
              exact put3_below I4.out.1 (Nat.le_add_right _ 2) _ _ _
        | true =>
          rw [if_pos rfl] at h
          simp only [Option.some.injEq, Prod.mk.injEq] at h
          obtain ⟨rfl, rfl, rfl, rfl⟩ := h
          go_enter Try.func13, Try.ntmps13
          go_wp2
          go_loopg [18] 2 (fun hk v18 wc => ∃ (j : Int), v18 = .int .i64 j ∧ Aside0 (0 ≤ j ∧ j + hk = 2) ∧ Aside0 (PsInv w a0_0 a0_1 a1_0 a1_1 (.slice A0_2 l0_2.length c0_2) (.slice A1_2 l1_2.length c1_2) wc))
          case atStart => exact ⟨0, rfl, ⟨by omega, by omega⟩, I0⟩
          case round =>
            clear I0
            obtain ⟨j, rfl, HJ, I1⟩ := hrel
            have hj : j = 0 ∨ j = 1 ∨ j = 2 := by have := HJ.out; omega
            rcases hj with rfl | rfl | rfl
            · go_wp2_with (first | (go_at_call 14; refine (shape_Check.calls a0_0 a0_1 _ _ l0_2 0 _ (Kd.C_below (Kd.C_below H0.out I1.out.1) (below_alloc (Below.refl _ _) (.cells #[.int .i64 a0_0, .int .i64 a0_1, .slice A0_2 l0_2.length c0_2] 24))) HC0.out HT.out).mono ?_; rintro e W2 ⟨rfl, hb2⟩; have I2 := Aside0.mk (I1.out.below (below_then (below_alloc (Below.refl _ wr) (.cells #[.int .i64 a0_0, .int .i64 a0_1, .slice A0_2 l0_2.length c0_2] 24)) (below_alloc (Below.refl _ wr) (.cells #[.int .i64 a0_0, .int .i64 a0_1, .slice A0_2 l0_2.length c0_2] 24)).size hb2)); obtain ⟨z0, z1, z2⟩ := matBox_cells I2.out.2.2.2; have zf := blk_frozen I2.out.2.2.2; clear hb2))
              go_roundg (gk - 1)
              case measure => have := HJ.out; omega
              case rel => exact ⟨1, rfl, ⟨by omega, by have := HJ.out; omega⟩, I2⟩
            · go_wp2_with (first | (go_at_call 14; refine (shape_Check.calls a1_0 a1_1 _ _ l1_2 0 _ (Kd.C_below (Kd.C_below H1.out I1.out.1) (below_alloc (Below.refl _ _) (.cells #[.int .i64 a1_0, .int .i64 a1_1, .slice A1_2 l1_2.length c1_2] 24))) HC1.out HT2.out).mono ?_; rintro e W2 ⟨rfl, hb2⟩; have I2 := Aside0.mk (I1.out.below (below_then (below_alloc (Below.refl _ wr) (.cells #[.int .i64 a1_0, .int .i64 a1_1, .slice A1_2 l1_2.length c1_2] 24)) (below_alloc (Below.refl _ wr) (.cells #[.int .i64 a1_0, .int .i64 a1_1, .slice A1_2 l1_2.length c1_2] 24)).size hb2)); obtain ⟨z0, z1, z2⟩ := matBox_cells I2.out.2.2.2; have zf := blk_frozen I2.out.2.2.2; clear hb2))
              go_roundg (gk - 1)
              case measure => have := HJ.out; omega
              case rel => exact ⟨2, rfl, ⟨by omega, by have := HJ.out; omega⟩, I2⟩
            · clear ix0 ix1
              obtain ⟨u0, u1, u2⟩ := matBox_cells I1.out.2.1
              obtain ⟨v0, v1, v2⟩ := matBox_cells I1.out.2.2.1
              obtain ⟨z0, z1, z2⟩ := matBox_cells I1.out.2.2.2
              have zf := blk_frozen I1.out.2.2.2
              go_wp2_with (first
                | (go_at_call 24; (with_reducible refine (mat_within.calls a2 a1_0 a0_0 true _ HW1.out).mono ?_); rintro e W3 ⟨rfl, hd3⟩; have I3 := Aside0.mk (I1.out.below hd3.below); obtain ⟨u0, u1, u2⟩ := matBox_cells I3.out.2.1; obtain ⟨v0, v1, v2⟩ := matBox_cells I3.out.2.2.1; obtain ⟨z0, z1, z2⟩ := matBox_cells I3.out.2.2.2; have zf := blk_frozen I3.out.2.2.2; clear hd3)
                | (go_at_call 24; (with_reducible refine (mat_within.calls a3 a1_1 a0_1 true _ HW2.out).mono ?_); rintro e W4 ⟨rfl, hd4⟩; have I4 := Aside0.mk (I3.out.below hd4.below); obtain ⟨u0, u1, u2⟩ := matBox_cells I4.out.2.1; obtain ⟨v0, v1, v2⟩ := matBox_cells I4.out.2.2.1; obtain ⟨z0, z1, z2⟩ := matBox_cells I4.out.2.2.2; have zf := blk_frozen I4.out.2.2.2; clear hd4)
                )
              obtain ⟨M, N, eM, eN, hM1, hM2, hN1, hN2, hl⟩ := check_ok HT.out
              obtain ⟨M2, N2, eM2, eN2, hM21, hM22, hN21, hN22, hl2⟩ := check_ok HT2.out
              have f1 := within_ok (by omega) HW1.out
              have f2 := within_ok (by omega) HW2.out
              obtain ⟨I, eI⟩ := Int.eq_ofNat_of_zero_le f1.1
              obtain ⟨J, eJ⟩ := Int.eq_ofNat_of_zero_le f2.1
              have eI : a2 = ((I : Nat) : Int) := eI
              have eJ : a3 = ((J : Nat) : Int) := eJ
              subst eM eN eM2 eN2 eI eJ
              try simp only [Int.toNat_natCast]
              have HN := Aside0.mk (show 1 ≤ M ∧ M ≤ 64 ∧ 1 ≤ N ∧ N ≤ 64 ∧ l0_2.length = M * N ∧ 1 ≤ M2 ∧ 1 ≤ N2 ∧ l1_2.length = M2 * N2 ∧ I + M2 ≤ M ∧ J + N2 ≤ N by omega)
              have HPB : Aside0 (M * N ≤ 4096) := ⟨Nat.le_trans (Nat.mul_le_mul hM2 hN2) (by omega)⟩
              have HPOS : Aside0 (0 < l0_2.length) := ⟨by rw [hl]; exact Nat.mul_pos hM1 hN1⟩
              have HCF : Aside0 (slices_Clone_uint64_uint64.f l0_2 = some l0_2) := ⟨by unfold slices_Clone_uint64_uint64.f; rw [if_pos (by rw [hl]; exact Nat.lt_of_le_of_lt HPB.out (by omega))]⟩
              have PN := Aside0.mk (⟨hM1, hM2, hN1, hN2, hl, hM21, hN21, hl2, by omega, by omega⟩ : PsN M N M2 N2 I J l0_2 l1_2)
              clear hM1 hM2 hN1 hN2 hl hM21 hM22 hN21 hN22 hl2 f1 f2
              clear v0 v1 v2 z0 z1 z2 zf
              have hne1 : ¬ (w.heap.size = W4.heap.size) := Nat.ne_of_lt (blk_lt I4.out.2.1)
              have hne2 : ¬ (W4.heap.size = w.heap.size) := fun e => hne1 e.symm
              go_region_held3 (fun w' => w'.cell? ⟨w.heap.size, 0, none⟩ = some (.int .i64 (M : Int)) ∧ w'.cell? ⟨w.heap.size, 1, none⟩ = some (.int .i64 (N : Int)) ∧ w'.cell? ⟨w.heap.size, 2, none⟩ = some (.slice A0_2 l0_2.length c0_2)) (first | exact ⟨by assumption, by assumption, by assumption⟩ | go_keep) (first
                | (go_at_call 26; refine (slices_Clone_uint64_uint64.calls _ _ l0_2 l0_2 _ (Kd.C_below H0.out ?hb) HC0.out HCF.out).mono ?_; (case hb => repeat (first | exact I4.out.1 | refine below_drew ?_ | refine below_alloc ?_ _)); rintro e W6 ⟨v6, rfl, hR6, hB6⟩; obtain ⟨g, cp, rfl, hgb, hgl, hcl, hg0⟩ := Kd.R_form hR6 HPOS.out; have HR6 := Aside0.mk (Kd.R_lower (base' := w.heap.size) hR6 (by first | exact I4.out.1.size | exact Nat.le_trans I4.out.1.size (by simp))); have I6 := Aside0.mk (I4.out.below (by first | exact below_then (below_drew (Below.refl _ W4)) (Nat.le_refl _) hB6 | exact below_then (below_alloc (below_drew (Below.refl _ W4)) _) (below_alloc (below_drew (Below.refl _ W4)) _).size hB6)); have x0 : W6.cell? ⟨w.heap.size, 0, none⟩ = some (.int .i64 (M : Int)) := pw_cell_below hB6 (by first | exact u0 | exact pw_cell_below (below_alloc (Below.refl _ _) _) u0); have x1 : W6.cell? ⟨w.heap.size, 1, none⟩ = some (.int .i64 (N : Int)) := pw_cell_below hB6 (by first | exact u1 | exact pw_cell_below (below_alloc (Below.refl _ _) _) u1); have x2 : W6.cell? ⟨w.heap.size, 2, none⟩ = some (.slice A0_2 l0_2.length c0_2) := pw_cell_below hB6 (by first | exact u2 | exact pw_cell_below (below_alloc (Below.refl _ _) _) u2); (try (have BB := Aside0.mk (show W6.heap[W4.heap.size]? = some (.cells #[.int .i64 0, .int .i64 0, .slice none 0 0] 24 (0, 0)) from blk_below (blk_new W4.drew (.cells #[.int .i64 0, .int .i64 0, .slice none 0 0] 24)) hB6); have k0 : W6.cell? ⟨W4.heap.size, 0, none⟩ = some (.int .i64 0) := (blk_cell BB.out 0).trans rfl; have k1 : W6.cell? ⟨W4.heap.size, 1, none⟩ = some (.int .i64 0) := (blk_cell BB.out 1).trans rfl; have k2 : W6.cell? ⟨W4.heap.size, 2, none⟩ = some (.slice none 0 0) := (blk_cell BB.out 2).trans rfl; have kf : ∀ i, W6.frozen? ⟨W4.heap.size, i, none⟩ = false := blk_frozen BB.out)); clear hR6 hB6 hgb hgl hcl hg0))
              · have B7 := Aside0.mk (show MatBox (W6.alloc (.cells #[.int .i64 (M : Int), .int .i64 (N : Int), .slice (some ⟨g, 0, none⟩) l0_2.length cp] 24)) W6.heap.size M N (.slice (some ⟨g, 0, none⟩) l0_2.length cp) from blk_new W6 _)
                have I7 := Aside0.mk (I6.out.below (below_alloc (Below.refl _ W6) (.cells #[.int .i64 (M : Int), .int .i64 (N : Int), .slice (some ⟨g, 0, none⟩) l0_2.length cp] 24)))
                have R7 := Aside0.mk (Kd.R_alloc HR6.out (.cells #[.int .i64 (M : Int), .int .i64 (N : Int), .slice (some ⟨g, 0, none⟩) l0_2.length cp] 24))
                have L7 := Aside0.mk (blk_lt I6.out.2.2.2)
                clear x0 x1 x2 hne1 hne2 I6 HR6
                generalize W6.alloc (.cells #[.int .i64 (M : Int), .int .i64 (N : Int), .slice (some ⟨g, 0, none⟩) l0_2.length cp] 24) = W7 at *
                generalize W6.heap.size = b13 at *
                obtain ⟨v0, v1, v2⟩ := matBox_cells I7.out.2.2.1
                go_wp2
                clear u0 u1 u2 v0 v1 v2
                go_loopg [55] M2 (fun hk v55 wc => ∃ (T : Nat), v55 = .int .i64 T ∧ Aside0 (T + hk = M2) ∧ Aside0 (PsInv w M N M2 N2 (.slice A0_2 l0_2.length c0_2) (.slice A1_2 l1_2.length c1_2) wc) ∧ Aside0 (MatBox wc b13 M N (.slice (some ⟨g, 0, none⟩) l0_2.length cp)) ∧ Aside0 (Kd.R (Kd.int .u64) 30 wc w.heap.size (fun _ => True) (.slice (some ⟨g, 0, none⟩) l0_2.length cp) (matPasteRows l0_2 N N2 l1_2 I J T)))
                case atStart => exact ⟨0, rfl, ⟨by omega⟩, I7, B7, R7⟩
                case round =>
                  clear I7 B7 R7 I1 I3 I4
                  obtain ⟨T, rfl, HJ, J1, BO, RO⟩ := hrel
                  by_cases hlt : T < M2
                  · have d0n : decide (T < M2) = true := decide_eq_true hlt
                    have d0 : decide ((T : Int) < (M2 : Int)) = true := decide_eq_true (by omega)
                    have HLT := Aside0.mk hlt
                    clear hlt
                    obtain ⟨IT, hIT⟩ : ∃ x, I + T = x := ⟨_, rfl⟩
                    obtain ⟨L, hL⟩ : ∃ L, (I + T) * N = L := ⟨_, rfl⟩
                    obtain ⟨H, hH⟩ : ∃ x, L + N = x := ⟨_, rfl⟩
                    obtain ⟨L2, hL2⟩ : ∃ L, T * N2 = L := ⟨_, rfl⟩
                    obtain ⟨H2, hH2⟩ : ∃ x, L2 + N2 = x := ⟨_, rfl⟩
                    obtain ⟨F, hF⟩ : ∃ x, L + J = x := ⟨_, rfl⟩
                    obtain ⟨D, hD⟩ : ∃ x, N - J = x := ⟨_, rfl⟩
                    obtain ⟨C1, hC1⟩ : ∃ x, cp - L = x := ⟨_, rfl⟩
                    obtain ⟨C2, hC2⟩ : ∃ x, C1 - J = x := ⟨_, rfl⟩
                    obtain ⟨Cb, hCb⟩ : ∃ x, c1_2 - L2 = x := ⟨_, rfl⟩
                    obtain ⟨Bb, hBb⟩ : ∃ B, A1_2.map (·.add L2) = B := ⟨_, rfl⟩
                    have HCP := Aside0.mk (Kd.R_reads' RO.out).2.1
                    have PL := Aside0.mk (PN.out.place HLT.out)
                    have EL := Aside0.mk (PN.out.rows (Nat.le_of_lt HLT.out))
                    have w0 : wrap64 ((I : Int) + (T : Int)) = (IT : Int) := ps_w0 PN.out HLT.out hIT
                    have w0' : IntKind.i64.wrap ((I : Int) + (T : Int)) = (IT : Int) := wrap_i64 w0
                    have hB1 : (some (⟨g, 0, none⟩ : Addr)).map (·.add L) = some ⟨g, L, none⟩ := by simp [add_plain]
                    have HR1 := Aside0.mk (fun W : World => mat_row_calls (M : Int) (N : Int) (IT : Int) L N H (some ⟨g, 0, none⟩) (some ⟨g, L, none⟩) cp C1 l0_2.length W hB1 hC1 (row_lo hIT hL PL.out PN.out.mn) (row_hi hIT hL hH PL.out PN.out.mn PN.out.n2 PN.out.n1) hH.symm PN.out.n1 (row_le hL hH PL.out PN.out.len) HCP.out)
                    have HR2 := Aside0.mk (fun W : World => mat_row_calls (M2 : Int) (N2 : Int) (T : Int) L2 N2 H2 A1_2 Bb c1_2 Cb l1_2.length W hBb hCb (row_lo2 hL2 HLT.out PN.out.mn2) (row_hi2 hL2 hH2 HLT.out PN.out.mn2 (ps_m2 PN.out)) hH2.symm PN.out.n21 (row_le2 hL2 hH2 HLT.out PN.out.len2) HC1.out)
                    have hsl : ∀ W : World, (Instr.slice 22 (.slice (some ⟨g, L, none⟩) N C1) (some (.int .i64 (J : Int))) none none).run Try.prog W = .ok (.slice (some ⟨g, F, none⟩) D C2) W := fun W => slice_from g L N C1 J D C2 F hF (ps_jn PN.out) (ps_nc PN.out HLT.out hL hC1 HCP.out) hD hC2 W
                    have HBEH : Aside0 (∀ W5, Below wr.heap.size wr W5 → PsInv w M N M2 N2 (.slice A0_2 l0_2.length c0_2) (.slice A1_2 l1_2.length c1_2) W5 ∧ MatBox W5 b13 M N (.slice (some ⟨g, 0, none⟩) l0_2.length cp) ∧ Kd.R (Kd.int .u64) 30 W5 w.heap.size (fun _ => True) (.slice (some ⟨g, 0, none⟩) (matPasteRows l0_2 N N2 l1_2 I J T).length cp) (matPasteRows l0_2 N N2 l1_2 I J T) ∧ Kd.C (Kd.int .u64) W5 Bb N2 ((l1_2.drop L2).take N2)) := ⟨fun W5 hb5 => by
                      have J5 := J1.out.below hb5
                      exact ⟨J5, blk_below BO.out hb5, by rw [EL.out]; exact Kd.R_below RO.out hb5, row_in (Kd.C_below H1.out J5.1) L2 N2 (by rw [← hL2]; exact PN.out.place2 HLT.out) hBb⟩⟩
                    have HFIT : Aside0 (F + N2 ≤ (matPasteRows l0_2 N N2 l1_2 I J T).length ∧ 0 < (matPasteRows l0_2 N N2 l1_2 I J T).length ∧ N2 ≤ D) := ⟨by rw [EL.out]; exact ps_fit PN.out HLT.out hL hF hD⟩
                    have HNEXT : Aside0 ((matPasteRows l0_2 N N2 l1_2 I J T).take F ++ (l1_2.drop L2).take N2 ++ (matPasteRows l0_2 N N2 l1_2 I J T).drop (F + N2) = matPasteRows l0_2 N N2 l1_2 I J (T + 1)) := ⟨by rw [← hF, ← hL, ← hL2]; rfl⟩
                    have HS := Aside0.mk (ps_s PN.out HLT.out)
                    clear hIT hL hH hL2 hH2 hF hD hC1 hC2 hCb hBb hB1
                    obtain ⟨x0, x1, x2⟩ := matBox_cells BO.out
                    obtain ⟨y0, y1, y2⟩ := matBox_cells J1.out.2.2.1
                    go_wp2
                    go_region_held3 (fun w' => w'.cell? ⟨b13, 0, none⟩ = some (.int .i64 (M : Int)) ∧ w'.cell? ⟨b13, 1, none⟩ = some (.int .i64 (N : Int)) ∧ w'.cell? ⟨b13, 2, none⟩ = some (.slice (some ⟨g, 0, none⟩) l0_2.length cp) ∧ w'.cell? ⟨w.heap.size + 1, 0, none⟩ = some (.int .i64 (M2 : Int)) ∧ w'.cell? ⟨w.heap.size + 1, 1, none⟩ = some (.int .i64 (N2 : Int)) ∧ w'.cell? ⟨w.heap.size + 1, 2, none⟩ = some (.slice A1_2 l1_2.length c1_2)) (first | exact ⟨by assumption, by assumption, by assumption, by assumption, by assumption, by assumption⟩ | exact ⟨x0, x1, x2, y0, y1, y2⟩ | go_keep) (first
                      | (go_at_call 25; (try rw [w0']); (with_reducible refine (HR1.out _).mono ?_); rintro e W5 ⟨rfl, hb5⟩; have BW5 := Aside0.mk (below_then (below_drew (Below.refl wr.heap.size wr)) (Nat.le_refl _) hb5); obtain ⟨J5, B5, R5, C5⟩ := HBEH.out W5 BW5.out; obtain ⟨x0, x1, x2⟩ := matBox_cells B5; obtain ⟨y0, y1, y2⟩ := matBox_cells J5.2.2.1; clear hb5 J5 B5 R5 C5)
                      | (go_at_call 25; (with_reducible refine (HR2.out _).mono ?_); rintro e W6 ⟨rfl, hb6⟩; have BW6 := Aside0.mk (below_then BW5.out BW5.out.size hb6); obtain ⟨J6, B6, R6, C6⟩ := HBEH.out W6 BW6.out; have J6 := Aside0.mk J6; have B6 := Aside0.mk B6; have R6 := Aside0.mk R6; have C6 := Aside0.mk C6; obtain ⟨x0, x1, x2⟩ := matBox_cells B6.out; obtain ⟨y0, y1, y2⟩ := matBox_cells J6.out.2.2.1; clear hb6)
                      | (refine step_copy_D rfl (.tmp 64) (.tmp 67) 22 22 30 rfl Try.underlying22 (by kernel_rfl) (f := F) (D := D) (dCap := C2) (m := N2) (c := Cb) (A := Bb) rfl rfl R6.out C6.out HFIT.out.1 HFIT.out.2.1 HFIT.out.2.2 ?_; intro w1 hR8 hg8; rw [HNEXT.out] at hR8; have R8 := Aside0.mk hR8; have J8 := Aside0.mk (J6.out.grown (x := .slice (some ⟨g, 0, none⟩) (matPasteRows l0_2 N N2 l1_2 I J T).length cp) hg8 R6.out); have B8 := Aside0.mk (mb_grown (x := .slice (some ⟨g, 0, none⟩) (matPasteRows l0_2 N N2 l1_2 I J T).length cp) B6.out hg8 R6.out); obtain ⟨x0, x1, x2⟩ := matBox_cells B8.out; obtain ⟨y0, y1, y2⟩ := matBox_cells J8.out.2.2.1; clear hR8 hg8))
                    all_goals
                      clear x0 x1 x2 y0 y1 y2
                      go_wp2
                      go_roundg (gk - 1)
                      case measure => exact cut_m HJ.out HLT.out
                      case rel => exact ⟨T + 1, by rw [HS.out], ⟨cut_r HJ.out HLT.out⟩, J8, B8, ⟨by rw [← EL.out]; exact R8.out⟩⟩
                  · have d0n : decide (T < M2) = false := decide_eq_false hlt
                    have d0 : decide ((T : Int) < (M2 : Int)) = false := decide_eq_false (by omega)
                    have eT : T = M2 := by have := HJ.out; omega
                    have RE := Aside0.mk (show Kd.R (Kd.int .u64) 30 wr w.heap.size (fun _ => True) (.slice (some ⟨g, 0, none⟩) l0_2.length cp) (matPasteRows l0_2 N N2 l1_2 I J M2) from eT ▸ RO.out)
                    clear hlt eT RO
                    obtain ⟨x0, x1, x2⟩ := matBox_cells BO.out
                    obtain ⟨z0, z1, z2⟩ := matBox_cells J1.out.2.2.2
                    have zf := blk_frozen J1.out.2.2.2
                    go_wp2
                    have F3 := put3_box J1.out.2.2.2 M N (.slice (some ⟨g, 0, none⟩) l0_2.length cp)
                    refine bodyPost_ret (results_ct rfl _ _ (w.heap.size + 2) 24 #[.int .i64 (M : Int), .int .i64 (N : Int), .slice (some ⟨g, 0, none⟩) l0_2.length cp] (0, 0) _ rfl F3 Try.underlying24 rfl (by kernel_rfl)) rfl ?_
                    refine ⟨_, rfl, ?_, ?_⟩
                    · exact put3_R RE.out J1.out.2.2.2
                    · exact put3_below J1.out.1 (Nat.le_add_right _ 2) _ _ _
              · have B7 := Aside0.mk (put3_box (W := W6) (b := W4.heap.size) BB.out (M : Int) (N : Int) (.slice (some ⟨g, 0, none⟩) l0_2.length cp))
                have L7 := Aside0.mk (blk_lt I4.out.2.2.2)
                have I7 := Aside0.mk (((I6.out.put L7.out 0 (.int .i64 (M : Int))).put L7.out 1 (.int .i64 (N : Int))).put L7.out 2 (.slice (some ⟨g, 0, none⟩) l0_2.length cp))
                have R7 := Aside0.mk (put3_R (m' := (M : Int)) (n' := (N : Int)) (u' := .slice (some ⟨g, 0, none⟩) l0_2.length cp) HR6.out BB.out)
                clear x0 x1 x2 hne1 hne2 I6 HR6 k0 k1 k2 kf BB
                generalize ((W6.setCell ⟨W4.heap.size, 0, none⟩ (.int .i64 (M : Int))).setCell ⟨W4.heap.size, 1, none⟩ (.int .i64 (N : Int))).setCell ⟨W4.heap.size, 2, none⟩ (.slice (some ⟨g, 0, none⟩) l0_2.length cp) = W7 at *
                generalize W4.heap.size = b13 at *
                obtain ⟨v0, v1, v2⟩ := matBox_cells I7.out.2.2.1
                go_wp2
                clear u0 u1 u2 v0 v1 v2
                go_loopg [55] M2 (fun hk v55 wc => ∃ (T : Nat), v55 = .int .i64 T ∧ Aside0 (T + hk = M2) ∧ Aside0 (PsInv w M N M2 N2 (.slice A0_2 l0_2.length c0_2) (.slice A1_2 l1_2.length c1_2) wc) ∧ Aside0 (MatBox wc b13 M N (.slice (some ⟨g, 0, none⟩) l0_2.length cp)) ∧ Aside0 (Kd.R (Kd.int .u64) 30 wc w.heap.size (fun _ => True) (.slice (some ⟨g, 0, none⟩) l0_2.length cp) (matPasteRows l0_2 N N2 l1_2 I J T)))
                case atStart => exact ⟨0, rfl, ⟨by omega⟩, I7, B7, R7⟩
                case round =>
                  clear I7 B7 R7 I1 I3 I4
                  obtain ⟨T, rfl, HJ, J1, BO, RO⟩ := hrel
                  by_cases hlt : T < M2
                  · have d0n : decide (T < M2) = true := decide_eq_true hlt
                    have d0 : decide ((T : Int) < (M2 : Int)) = true := decide_eq_true (by omega)
                    have HLT := Aside0.mk hlt
                    clear hlt
                    obtain ⟨IT, hIT⟩ : ∃ x, I + T = x := ⟨_, rfl⟩
                    obtain ⟨L, hL⟩ : ∃ L, (I + T) * N = L := ⟨_, rfl⟩
                    obtain ⟨H, hH⟩ : ∃ x, L + N = x := ⟨_, rfl⟩
                    obtain ⟨L2, hL2⟩ : ∃ L, T * N2 = L := ⟨_, rfl⟩
                    obtain ⟨H2, hH2⟩ : ∃ x, L2 + N2 = x := ⟨_, rfl⟩
                    obtain ⟨F, hF⟩ : ∃ x, L + J = x := ⟨_, rfl⟩
                    obtain ⟨D, hD⟩ : ∃ x, N - J = x := ⟨_, rfl⟩
                    obtain ⟨C1, hC1⟩ : ∃ x, cp - L = x := ⟨_, rfl⟩
                    obtain ⟨C2, hC2⟩ : ∃ x, C1 - J = x := ⟨_, rfl⟩
                    obtain ⟨Cb, hCb⟩ : ∃ x, c1_2 - L2 = x := ⟨_, rfl⟩
                    obtain ⟨Bb, hBb⟩ : ∃ B, A1_2.map (·.add L2) = B := ⟨_, rfl⟩
                    have HCP := Aside0.mk (Kd.R_reads' RO.out).2.1
                    have PL := Aside0.mk (PN.out.place HLT.out)
                    have EL := Aside0.mk (PN.out.rows (Nat.le_of_lt HLT.out))
                    have w0 : wrap64 ((I : Int) + (T : Int)) = (IT : Int) := ps_w0 PN.out HLT.out hIT
                    have w0' : IntKind.i64.wrap ((I : Int) + (T : Int)) = (IT : Int) := wrap_i64 w0
                    have hB1 : (some (⟨g, 0, none⟩ : Addr)).map (·.add L) = some ⟨g, L, none⟩ := by simp [add_plain]
                    have HR1 := Aside0.mk (fun W : World => mat_row_calls (M : Int) (N : Int) (IT : Int) L N H (some ⟨g, 0, none⟩) (some ⟨g, L, none⟩) cp C1 l0_2.length W hB1 hC1 (row_lo hIT hL PL.out PN.out.mn) (row_hi hIT hL hH PL.out PN.out.mn PN.out.n2 PN.out.n1) hH.symm PN.out.n1 (row_le hL hH PL.out PN.out.len) HCP.out)
                    have HR2 := Aside0.mk (fun W : World => mat_row_calls (M2 : Int) (N2 : Int) (T : Int) L2 N2 H2 A1_2 Bb c1_2 Cb l1_2.length W hBb hCb (row_lo2 hL2 HLT.out PN.out.mn2) (row_hi2 hL2 hH2 HLT.out PN.out.mn2 (ps_m2 PN.out)) hH2.symm PN.out.n21 (row_le2 hL2 hH2 HLT.out PN.out.len2) HC1.out)
                    have hsl : ∀ W : World, (Instr.slice 22 (.slice (some ⟨g, L, none⟩) N C1) (some (.int .i64 (J : Int))) none none).run Try.prog W = .ok (.slice (some ⟨g, F, none⟩) D C2) W := fun W => slice_from g L N C1 J D C2 F hF (ps_jn PN.out) (ps_nc PN.out HLT.out hL hC1 HCP.out) hD hC2 W
                    have HBEH : Aside0 (∀ W5, Below wr.heap.size wr W5 → PsInv w M N M2 N2 (.slice A0_2 l0_2.length c0_2) (.slice A1_2 l1_2.length c1_2) W5 ∧ MatBox W5 b13 M N (.slice (some ⟨g, 0, none⟩) l0_2.length cp) ∧ Kd.R (Kd.int .u64) 30 W5 w.heap.size (fun _ => True) (.slice (some ⟨g, 0, none⟩) (matPasteRows l0_2 N N2 l1_2 I J T).length cp) (matPasteRows l0_2 N N2 l1_2 I J T) ∧ Kd.C (Kd.int .u64) W5 Bb N2 ((l1_2.drop L2).take N2)) := ⟨fun W5 hb5 => by
                      have J5 := J1.out.below hb5
                      exact ⟨J5, blk_below BO.out hb5, by rw [EL.out]; exact Kd.R_below RO.out hb5, row_in (Kd.C_below H1.out J5.1) L2 N2 (by rw [← hL2]; exact PN.out.place2 HLT.out) hBb⟩⟩
                    have HFIT : Aside0 (F + N2 ≤ (matPasteRows l0_2 N N2 l1_2 I J T).length ∧ 0 < (matPasteRows l0_2 N N2 l1_2 I J T).length ∧ N2 ≤ D) := ⟨by rw [EL.out]; exact ps_fit PN.out HLT.out hL hF hD⟩
                    have HNEXT : Aside0 ((matPasteRows l0_2 N N2 l1_2 I J T).take F ++ (l1_2.drop L2).take N2 ++ (matPasteRows l0_2 N N2 l1_2 I J T).drop (F + N2) = matPasteRows l0_2 N N2 l1_2 I J (T + 1)) := ⟨by rw [← hF, ← hL, ← hL2]; rfl⟩
                    have HS := Aside0.mk (ps_s PN.out HLT.out)
                    clear hIT hL hH hL2 hH2 hF hD hC1 hC2 hCb hBb hB1
                    obtain ⟨x0, x1, x2⟩ := matBox_cells BO.out
                    obtain ⟨y0, y1, y2⟩ := matBox_cells J1.out.2.2.1
                    go_wp2
                    go_region_held3 (fun w' => w'.cell? ⟨b13, 0, none⟩ = some (.int .i64 (M : Int)) ∧ w'.cell? ⟨b13, 1, none⟩ = some (.int .i64 (N : Int)) ∧ w'.cell? ⟨b13, 2, none⟩ = some (.slice (some ⟨g, 0, none⟩) l0_2.length cp) ∧ w'.cell? ⟨w.heap.size + 1, 0, none⟩ = some (.int .i64 (M2 : Int)) ∧ w'.cell? ⟨w.heap.size + 1, 1, none⟩ = some (.int .i64 (N2 : Int)) ∧ w'.cell? ⟨w.heap.size + 1, 2, none⟩ = some (.slice A1_2 l1_2.length c1_2)) (first | exact ⟨by assumption, by assumption, by assumption, by assumption, by assumption, by assumption⟩ | exact ⟨x0, x1, x2, y0, y1, y2⟩ | go_keep) (first
                      | (go_at_call 25; (try rw [w0']); (with_reducible refine (HR1.out _).mono ?_); rintro e W5 ⟨rfl, hb5⟩; have BW5 := Aside0.mk (below_then (below_drew (Below.refl wr.heap.size wr)) (Nat.le_refl _) hb5); obtain ⟨J5, B5, R5, C5⟩ := HBEH.out W5 BW5.out; obtain ⟨x0, x1, x2⟩ := matBox_cells B5; obtain ⟨y0, y1, y2⟩ := matBox_cells J5.2.2.1; clear hb5 J5 B5 R5 C5)
                      | (go_at_call 25; (with_reducible refine (HR2.out _).mono ?_); rintro e W6 ⟨rfl, hb6⟩; have BW6 := Aside0.mk (below_then BW5.out BW5.out.size hb6); obtain ⟨J6, B6, R6, C6⟩ := HBEH.out W6 BW6.out; have J6 := Aside0.mk J6; have B6 := Aside0.mk B6; have R6 := Aside0.mk R6; have C6 := Aside0.mk C6; obtain ⟨x0, x1, x2⟩ := matBox_cells B6.out; obtain ⟨y0, y1, y2⟩ := matBox_cells J6.out.2.2.1; clear hb6)
                      | (refine step_copy_D rfl (.tmp 64) (.tmp 67) 22 22 30 rfl Try.underlying22 (by kernel_rfl) (f := F) (D := D) (dCap := C2) (m := N2) (c := Cb) (A := Bb) rfl rfl R6.out C6.out HFIT.out.1 HFIT.out.2.1 HFIT.out.2.2 ?_; intro w1 hR8 hg8; rw [HNEXT.out] at hR8; have R8 := Aside0.mk hR8; have J8 := Aside0.mk (J6.out.grown (x := .slice (some ⟨g, 0, none⟩) (matPasteRows l0_2 N N2 l1_2 I J T).length cp) hg8 R6.out); have B8 := Aside0.mk (mb_grown (x := .slice (some ⟨g, 0, none⟩) (matPasteRows l0_2 N N2 l1_2 I J T).length cp) B6.out hg8 R6.out); obtain ⟨x0, x1, x2⟩ := matBox_cells B8.out; obtain ⟨y0, y1, y2⟩ := matBox_cells J8.out.2.2.1; clear hR8 hg8))
                    all_goals
                      clear x0 x1 x2 y0 y1 y2
                      go_wp2
                      go_roundg (gk - 1)
                      case measure => exact cut_m HJ.out HLT.out
                      case rel => exact ⟨T + 1, by rw [HS.out], ⟨cut_r HJ.out HLT.out⟩, J8, B8, ⟨by rw [← EL.out]; exact R8.out⟩⟩
                  · have d0n : decide (T < M2) = false := decide_eq_false hlt
                    have d0 : decide ((T : Int) < (M2 : Int)) = false := decide_eq_false (by omega)
                    have eT : T = M2 := by have := HJ.out; omega
                    have RE := Aside0.mk (show Kd.R (Kd.int .u64) 30 wr w.heap.size (fun _ => True) (.slice (some ⟨g, 0, none⟩) l0_2.length cp) (matPasteRows l0_2 N N2 l1_2 I J M2) from eT ▸ RO.out)
                    clear hlt eT RO
                    obtain ⟨x0, x1, x2⟩ := matBox_cells BO.out
                    obtain ⟨z0, z1, z2⟩ := matBox_cells J1.out.2.2.2
                    have zf := blk_frozen J1.out.2.2.2
                    go_wp2
                    have F3 := put3_box J1.out.2.2.2 M N (.slice (some ⟨g, 0, none⟩) l0_2.length cp)
                    refine bodyPost_ret (results_ct rfl _ _ (w.heap.size + 2) 24 #[.int .i64 (M : Int), .int .i64 (N : Int), .slice (some ⟨g, 0, none⟩) l0_2.length cp] (0, 0) _ rfl F3 Try.underlying24 rfl (by kernel_rfl)) rfl ?_
                    refine ⟨_, rfl, ?_, ?_⟩
                    · exact put3_R RE.out J1.out.2.2.2
                    · exact put3_below J1.out.1 (Nat.le_add_right _ 2) _ _ _
    · rw [if_neg ht0] at h
      simp only [Option.some.injEq, Prod.mk.injEq] at h
      obtain ⟨rfl, rfl, rfl, rfl⟩ := h
      have c5b1 : (t2 != 0) = true := bne_iff_ne.mpr ht0
      clear ht0
      go_enter Try.func13, Try.ntmps13
      go_wp2
      go_loopg [18] 1 (fun hk v18 wc => ∃ (j : Int), v18 = .int .i64 j ∧ Aside0 (0 ≤ j ∧ j + hk = 1) ∧ Aside0 (PsInv w a0_0 a0_1 a1_0 a1_1 (.slice A0_2 l0_2.length c0_2) (.slice A1_2 l1_2.length c1_2) wc))
      case atStart => exact ⟨0, rfl, ⟨by omega, by omega⟩, I0⟩
      case round =>
        clear I0
        obtain ⟨j, rfl, HJ, I1⟩ := hrel
        have hj : j = 0 ∨ j = 1 := by have := HJ.out; omega
        rcases hj with rfl | rfl
        · go_wp2_with (first | (go_at_call 14; refine (shape_Check.calls a0_0 a0_1 _ _ l0_2 0 _ (Kd.C_below (Kd.C_below H0.out I1.out.1) (below_alloc (Below.refl _ _) (.cells #[.int .i64 a0_0, .int .i64 a0_1, .slice A0_2 l0_2.length c0_2] 24))) HC0.out HT.out).mono ?_; rintro e W2 ⟨rfl, hb2⟩; have I2 := Aside0.mk (I1.out.below (below_then (below_alloc (Below.refl _ wr) (.cells #[.int .i64 a0_0, .int .i64 a0_1, .slice A0_2 l0_2.length c0_2] 24)) (below_alloc (Below.refl _ wr) (.cells #[.int .i64 a0_0, .int .i64 a0_1, .slice A0_2 l0_2.length c0_2] 24)).size hb2)); obtain ⟨z0, z1, z2⟩ := matBox_cells I2.out.2.2.2; have zf := blk_frozen I2.out.2.2.2; clear hb2))
          go_roundg (gk - 1)
          case measure => have := HJ.out; omega
          case rel => exact ⟨1, rfl, ⟨by omega, by have := HJ.out; omega⟩, I2⟩
        · go_wp2_with (first | (go_at_call 14; refine (shape_Check.calls a1_0 a1_1 _ _ l1_2 t2 _ (Kd.C_below (Kd.C_below H1.out I1.out.1) (below_alloc (Below.refl _ _) (.cells #[.int .i64 a1_0, .int .i64 a1_1, .slice A1_2 l1_2.length c1_2] 24))) HC1.out HT2.out).mono ?_; rintro e W2 ⟨rfl, hb2⟩; have I2 := Aside0.mk (I1.out.below (below_then (below_alloc (Below.refl _ wr) (.cells #[.int .i64 a1_0, .int .i64 a1_1, .slice A1_2 l1_2.length c1_2] 24)) (below_alloc (Below.refl _ wr) (.cells #[.int .i64 a1_0, .int .i64 a1_1, .slice A1_2 l1_2.length c1_2] 24)).size hb2)); obtain ⟨z0, z1, z2⟩ := matBox_cells I2.out.2.2.2; have zf := blk_frozen I2.out.2.2.2; clear hb2))
          have F3 := put3_box I2.out.2.2.2 0 0 (.slice none 0 0)
          refine bodyPost_ret (results_ct rfl _ _ (w.heap.size + 2) 24 #[.int .i64 0, .int .i64 0, .slice none 0 0] (0, 0) _ rfl F3 Try.underlying24 rfl (by kernel_rfl)) rfl ?_
          refine ⟨_, rfl, Kd.R_nil _ _ _ _ _, ?_⟩
          exact put3_below I2.out.1 (Nat.le_add_right _ 2) _ _ _
  · rw [if_neg ht0] at h
    simp only [Option.some.injEq, Prod.mk.injEq] at h
    obtain ⟨rfl, rfl, rfl, rfl⟩ := h
    have c5b1 : (t != 0) = true := bne_iff_ne.mpr ht0
    clear ht0
    go_enter Try.func13, Try.ntmps13
    go_wp2
    go_loopg [18] 0 (fun hk v18 wc => ∃ (j : Int), v18 = .int .i64 j ∧ Aside0 (0 ≤ j ∧ j + hk = 0) ∧ Aside0 (PsInv w a0_0 a0_1 a1_0 a1_1 (.slice A0_2 l0_2.length c0_2) (.slice A1_2 l1_2.length c1_2) wc))
    case atStart => exact ⟨0, rfl, ⟨by omega, by omega⟩, I0⟩
    case round =>
      clear I0
      obtain ⟨j, rfl, HJ, I1⟩ := hrel
      have hj : j = 0 := by have := HJ.out; omega
      rcases hj with rfl
      · go_wp2_with (first | (go_at_call 14; refine (shape_Check.calls a0_0 a0_1 _ _ l0_2 t _ (Kd.C_below (Kd.C_below H0.out I1.out.1) (below_alloc (Below.refl _ _) (.cells #[.int .i64 a0_0, .int .i64 a0_1, .slice A0_2 l0_2.length c0_2] 24))) HC0.out HT.out).mono ?_; rintro e W2 ⟨rfl, hb2⟩; have I2 := Aside0.mk (I1.out.below (below_then (below_alloc (Below.refl _ wr) (.cells #[.int .i64 a0_0, .int .i64 a0_1, .slice A0_2 l0_2.length c0_2] 24)) (below_alloc (Below.refl _ wr) (.cells #[.int .i64 a0_0, .int .i64 a0_1, .slice A0_2 l0_2.length c0_2] 24)).size hb2)); obtain ⟨z0, z1, z2⟩ := matBox_cells I2.out.2.2.2; have zf := blk_frozen I2.out.2.2.2; clear hb2))
        have F3 := put3_box I2.out.2.2.2 0 0 (.slice none 0 0)
        refine bodyPost_ret (results_ct rfl _ _ (w.heap.size + 2) 24 #[.int .i64 0, .int .i64 0, .slice none 0 0] (0, 0) _ rfl F3 Try.underlying24 rfl (by kernel_rfl)) rfl ?_
        refine ⟨_, rfl, Kd.R_nil _ _ _ _ _, ?_⟩
        exact put3_below I2.out.1 (Nat.le_add_right _ 2) _ _ _

end Go.Proofs.Ythegoeabimehhaa.PMatParts
