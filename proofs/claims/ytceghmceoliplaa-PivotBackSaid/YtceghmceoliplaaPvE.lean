/- PivotBack: swaps forth and back, in plain lists. -/
import Derived.Test.YtceghmceoliplaaProg
import Derived.Below
import Derived.Deep.Draws
import Derived.Deep.AppendLies
import Derived.Maps.AppendAt
import Derived.OwnWalk
import Derived.Laws.BytesArg
import Derived.Laws.MakeOwn
import Derived.Laws.OwnMore
import Derived.Deep.OwnRows
import Derived.Tactics
import Derived.Lib.ConvBytes
import Derived.Laws.Slices
import Derived.WalkKit
import Derived.KernelRfl
import Derived.RowKit3
import Derived.Deep.LoopGhost
import Derived.Deep.QuietTactic
import Derived.BigQuiet
import Derived.WideLaws
import Derived.Deep.DeepCutAuto
import Derived.Deep.CutBlock
import Derived.Deep.RegionHeld3
import Derived.Laws.Rows
import Derived.Lib.AppendStr
import Derived.ArgAppend
import Derived.Laws.IdiomCopy
import Derived.OrdersHeld
import Derived.Laws.BitsLemmas
import Derived.RowKit
import Derived.Test.YtceghmceoliplaaWWords
import Derived.Test.YtceghmceoliplaaWLast
import Derived.Test.YtceghmceoliplaaWTab
import Derived.Test.YtceghmceoliplaaWFour
import Derived.Test.YtceghmceoliplaaWQPut
import Derived.Test.YtceghmceoliplaaWApart
import Derived.Test.YtceghmceoliplaaWArr
import Derived.Test.YtceghmceoliplaaWZeros
import Derived.Test.YtceghmceoliplaaWFoot
import Derived.Test.YtceghmceoliplaaWKept
import Derived.Test.YtceghmceoliplaaWShare
import Derived.Test.YtceghmceoliplaaWN
import Derived.Test.YtceghmceoliplaaWFootNe
import Derived.Test.YtceghmceoliplaaWAt
import Derived.Test.YtceghmceoliplaaWEqStruct
import Derived.Test.YtceghmceoliplaaWRepsOne
import Derived.Test.YtceghmceoliplaaWInv
import Derived.Test.YtceghmceoliplaaWInvWords
import Derived.Test.YtceghmceoliplaaWGuard
import Derived.Test.YtceghmceoliplaaWNEv
import Derived.Test.YtceghmceoliplaaWMore
import Derived.Test.YtceghmceoliplaaPvD
namespace Go.Proofs.Ytceghmceoliplaa.Pv
open Go.RowKit Go.Proofs.YtceghmceoliplaaW.PrintWords Go.Proofs.YtceghmceoliplaaW.PrintLast Go.Proofs.YtceghmceoliplaaW.PrintMore
attribute [local go_sem] max2_int min2_int max_two min_two max_three min_three max_four min_four
set_option linter.unusedVariables false
set_option linter.unusedSimpArgs false
open Go.Proofs.Ytceghmceoliplaa.PPivotBack
theorem place_lt {i j r c : Nat} (hi : i < r) (hj : j < c) : i * c + j < r * c := by
  have : (i + 1) * c ≤ r * c := Nat.mul_le_mul_right c hi
  rw [Nat.add_mul, Nat.one_mul] at this; omega
theorem place_div {i j c : Nat} (hj : j < c) : (i * c + j) / c = i := by
  rw [Nat.mul_comm, Nat.mul_add_div (by omega), Nat.div_eq_of_lt hj, Nat.add_zero]
theorem place_mod {i j c : Nat} (hj : j < c) : (i * c + j) % c = j := by
  rw [Nat.mul_comm, Nat.mul_add_mod, Nat.mod_eq_of_lt hj]
theorem getD_set (l : List Int) (i : Nat) (v : Int) (j : Nat) (hi : i < l.length) : (l.set i v).getD j 0 = if j = i then v else l.getD j 0 := by
  rw [List.getD_eq_getElem?_getD, List.getElem?_set, List.getD_eq_getElem?_getD]
  by_cases g : i = j
  · subst g; rw [if_pos rfl, if_pos hi, if_pos rfl]; rfl
  · rw [if_neg g, if_neg (fun e => g e.symm)]
def sw (l : List Int) (i j : Nat) : List Int := (l.set i (l.getD j 0)).set j (l.getD i 0)
theorem sw_len (l : List Int) (i j : Nat) : (sw l i j).length = l.length := by unfold sw; rw [List.length_set, List.length_set]
theorem sw_get (l : List Int) {i j : Nat} (hi : i < l.length) (hj : j < l.length) (t : Nat) : (sw l i j).getD t 0 = if t = j then l.getD i 0 else if t = i then l.getD j 0 else l.getD t 0 := by
  unfold sw
  rw [getD_set _ _ _ _ (by rw [List.length_set]; exact hj), getD_set _ _ _ _ hi]
theorem place_inj {r s a b n : Nat} (ha : a < n) (hb : b < n) (h : r * n + a = s * n + b) : r = s ∧ a = b := by
  have h1 := place_div (i := r) (j := a) ha
  have h2 := place_div (i := s) (j := b) hb
  have h3 := place_mod (i := r) (j := a) ha
  have h4 := place_mod (i := s) (j := b) hb
  rw [h] at h1 h3
  exact ⟨h1.symm.trans h2, h3.symm.trans h4⟩
def rowOf (I K r : Nat) : Nat := if r = I then K else if r = K then I else r
theorem rowOf_lt {M I K r : Nat} (hI : I < M) (hK : K < M) (hr : r < M) : rowOf I K r < M := by unfold rowOf; split; exact hK; split; exact hI; exact hr
theorem pvRows_get {l : List Int} {M N I K : Nat} (hl : l.length = M * N) (hI : I < M) (hK : K < M) : ∀ t, t ≤ N → ∀ r c, r < M → c < N →
    (pvRows l N I K t).getD (r * N + c) 0 = if c < t then l.getD (rowOf I K r * N + c) 0 else l.getD (r * N + c) 0
  | 0, _, r, c, _, _ => by rw [if_neg (by omega)]; rfl
  | t + 1, ht, r, c, hr, hc => by
    have hp := place_lt (i := I) (j := t) (r := M) (c := N) hI (by omega)
    have hq := place_lt (i := K) (j := t) (r := M) (c := N) hK (by omega)
    have hlen := pvRows_len l N I K t
    show (sw (pvRows l N I K t) (I * N + t) (K * N + t)).getD (r * N + c) 0 = _
    rw [sw_get _ (by omega) (by omega)]
    by_cases e1 : r * N + c = K * N + t
    · obtain ⟨rfl, rfl⟩ := place_inj hc (by omega) e1
      rw [if_pos rfl, if_pos (by omega), pvRows_get hl hI hK c (by omega) I c hI hc, if_neg (by omega)]
      unfold rowOf
      by_cases e2 : r = I
      · rw [if_pos e2, e2]
      · rw [if_neg e2, if_pos rfl]
    · rw [if_neg e1]
      by_cases e2 : r * N + c = I * N + t
      · obtain ⟨rfl, rfl⟩ := place_inj hc (by omega) e2
        rw [if_pos rfl, if_pos (by omega), pvRows_get hl hI hK c (by omega) K c hK hc, if_neg (by omega)]
        unfold rowOf
        rw [if_pos rfl]
      · rw [if_neg e2, pvRows_get hl hI hK t (by omega) r c hr hc]
        by_cases e3 : c < t
        · rw [if_pos e3, if_pos (by omega)]
        · rw [if_neg e3]
          by_cases e4 : c = t
          · subst e4
            rw [if_pos (by omega)]
            unfold rowOf
            rw [if_neg (fun h => e2 (by rw [h])), if_neg (fun h => e1 (by rw [h]))]
          · rw [if_neg (by omega)]
theorem pvRows_all {l : List Int} {M N I K r c : Nat} (hl : l.length = M * N) (hI : I < M) (hK : K < M) (hr : r < M) (hc : c < N) : (pvRows l N I K N).getD (r * N + c) 0 = l.getD (rowOf I K r * N + c) 0 := by
  rw [pvRows_get hl hI hK N (Nat.le_refl _) r c hr hc, if_pos hc]
theorem rowOf_two (I K r : Nat) : rowOf I K (rowOf I K r) = r := by
  unfold rowOf
  split <;> split <;> (try split) <;> omega
/-- two rows changed twice: as they were -/
theorem pvRows_two {l : List Int} {M N I K : Nat} (hl : l.length = M * N) (hN : 1 ≤ N) (hI : I < M) (hK : K < M) : pvRows (pvRows l N I K N) N I K N = l := by
  have hl1 := pvRows_len l N I K N
  have hl2 := pvRows_len (pvRows l N I K N) N I K N
  refine List.ext_getElem (by rw [hl2, hl1]) (fun x h1 h2 => ?_)
  have hx : (pvRows (pvRows l N I K N) N I K N).getD x 0 = l.getD x 0 := by
    have e : x = x / N * N + x % N := by have := Nat.div_add_mod x N; rw [Nat.mul_comm]; omega
    have hr : x / N < M := (Nat.div_lt_iff_lt_mul hN).2 (by omega)
    have hc : x % N < N := Nat.mod_lt _ hN
    have a := pvRows_all (l := pvRows l N I K N) (r := x / N) (c := x % N) (by rw [hl1]; exact hl) hI hK hr hc
    have b := pvRows_all (l := l) (r := rowOf I K (x / N)) (c := x % N) hl hI hK (rowOf_lt hI hK hr) hc
    rw [rowOf_two, ← e] at b
    rw [← e] at a
    exact a.trans b
  rw [List.getD_eq_getElem?_getD, List.getD_eq_getElem?_getD, List.getElem?_eq_getElem h1, List.getElem?_eq_getElem h2] at hx
  exact hx
theorem pvApp_back {m n : Int} {M N : Nat} {l s : List Int} (h : PvN m n M N l s) : ∀ t, t ≤ s.length → pvBk (pvApp l N s s.length) N s t = pvApp l N s (s.length - t)
  | 0, _ => rfl
  | t + 1, ht => by
    have ih := pvApp_back h t (by omega)
    obtain ⟨q, hq⟩ : ∃ q, s.length - t = q + 1 := ⟨s.length - t - 1, by omega⟩
    have a := h.at (T := q) (by omega)
    unfold pvBk
    rw [ih, hq, show s.length - 1 - t = q by omega, show s.length - (t + 1) = q by omega]
    show pvRows (pvRows (pvApp l N s q) N q (s.getD q 0).toNat N) N q (rd s (q : Int)).toNat N = _
    rw [a.2.2.2]
    exact pvRows_two (M := M) (by rw [pvApp_len]; exact h.ll) h.n1.1 a.2.2.1 a.2.1
theorem pvBk_app {m n : Int} {M N : Nat} {l s : List Int} (h : PvN m n M N l s) : ∀ t, t ≤ s.length → pvApp (pvBk l N s s.length) N s t = pvBk l N s (s.length - t)
  | 0, _ => rfl
  | t + 1, ht => by
    have ih := pvBk_app h t (by omega)
    obtain ⟨q, hq⟩ : ∃ q, s.length - t = q + 1 := ⟨s.length - t - 1, by omega⟩
    have a := h.at (T := t) (by omega)
    have e : s.length - 1 - q = t := by omega
    show pvRows (pvApp (pvBk l N s s.length) N s t) N t (s.getD t 0).toNat N = _
    rw [ih, hq, show s.length - (t + 1) = q by omega]
    show pvRows (pvRows (pvBk l N s q) N (s.length - 1 - q) (rd s ((s.length - 1 - q : Nat) : Int)).toNat N) N t (s.getD t 0).toNat N = _
    rw [e, a.2.2.2]
    exact pvRows_two (M := M) (by rw [pvBk_len]; exact h.ll) h.n1.1 a.2.2.1 a.2.1
/-- what is known of a matrix alone, whatever its row -/
theorem PvN.other {m n : Int} {M N : Nat} {l l' s : List Int} (h : PvN m n M N l s) (hl : l'.length = l.length) : PvN m n M N l' s := ⟨h.em, h.en, h.m1, h.m2, h.n1, hl.trans h.ll, h.sl, h.ok⟩
theorem PvN.check {m n : Int} {M N : Nat} {l s : List Int} (h : PvN m n M N l s) : shape_Check.f m n l = some 0 := by
  have e1 := h.em
  have e2 := h.en
  have h1 := h.m1
  have h2 := h.m2
  have h3 := h.n1
  have h4 := h.ll
  have h5 := Nat.mul_le_mul h.m2 h.n1.2
  have s1 : shape_side.f m = some true := by unfold shape_side.f; rw [if_pos (by omega), decide_eq_true (by omega)]
  have s2 : shape_side.f n = some true := by unfold shape_side.f; rw [if_pos (by omega), decide_eq_true (by omega)]
  unfold shape_Check.f
  rw [s1, Option.bind_some, if_pos rfl, s2, Option.bind_some, if_pos rfl, if_pos (by rw [h4, e1, e2, ← Int.natCast_mul]; unfold wrap64; omega)]
theorem PvN.ready {m n : Int} {M N : Nat} {l s : List Int} (h : PvN m n M N l s) : pvReady m 0 s = 0 := by
  have h1 := h.sl
  have h2 := h.em
  unfold pvReady
  rw [if_neg (by decide), if_neg (by rw [h.ok]; simp; omega)]
theorem pv_swap_f {m n : Int} {M N : Nat} {l s : List Int} (h : PvN m n M N l s) {T : Nat} (hT : T < s.length) : pivot_Swap.f m n l (T : Int) (rd s (T : Int)) = some (m, n, pvRows l N T (rd s (T : Int)).toNat N, 0) := by
  have a := h.at hT
  have e1 := h.em
  have e2 := h.en
  unfold pivot_Swap.f
  rw [h.check, Option.bind_some, if_pos rfl, pv_row, Option.bind_some, if_pos (by unfold pvIn; exact decide_eq_true (by omega)), pv_row, Option.bind_some, if_pos (by unfold pvIn; exact decide_eq_true (by omega)), h.clone, Option.bind_some, show n.toNat = N by omega, Int.toNat_natCast]
theorem check_tot (m n : Int) (l : List Int) : ∃ t, shape_Check.f m n l = some t ∧ (t = 0 ∨ t = 11) := by
  have side : ∀ x : Int, ∃ b, shape_side.f x = some b := fun x => by
    unfold shape_side.f
    split
    · exact ⟨_, rfl⟩
    · exact ⟨_, rfl⟩
  obtain ⟨b, hb⟩ := side m
  obtain ⟨b2, hb2⟩ := side n
  unfold shape_Check.f
  rw [hb, Option.bind_some, hb2, Option.bind_some]
  split
  · split
    · split
      · exact ⟨_, rfl, .inl rfl⟩
      · exact ⟨_, rfl, .inr rfl⟩
    · exact ⟨_, rfl, .inr rfl⟩
  · exact ⟨_, rfl, .inr rfl⟩
theorem equal_self (l : List Int) (hl : l.length ≤ 4096) : ∀ d i : Nat, i + d = l.length → slices_Equal_uint64_uint64.l0 (d + 1) l l (l.length : Int) (i : Int) = some true
  | 0, i, h => by
    unfold slices_Equal_uint64_uint64.l0
    rw [if_neg (by omega)]
  | d + 1, i, h => by
    have ih := equal_self l hl d (i + 1) (by omega)
    unfold slices_Equal_uint64_uint64.l0
    rw [if_pos (by omega), if_pos (by omega), if_pos (by omega), if_pos (by omega), if_pos rfl, show wrap64 ((i : Int) + 1) = ((i + 1 : Nat) : Int) by unfold wrap64; omega]
    exact ih
theorem same_self (m n : Int) (l : List Int) (hl : l.length ≤ 4096) : shape_Same.f (l.length + 1) m n l m n l = some true := by
  unfold shape_Same.f slices_Equal_uint64_uint64.f
  have h := equal_self l hl l.length 0 (by omega)
  rw [Int.natCast_zero] at h
  rw [if_pos rfl, if_pos rfl, if_pos rfl, h, Option.bind_some]
theorem PvN.small {m n : Int} {M N : Nat} {l s : List Int} (h : PvN m n M N l s) : l.length ≤ 4096 := by
  have := Nat.mul_le_mul h.m2 h.n1.2
  have := h.ll
  omega
theorem pv_alive : ∃ k, vernierlaw24_alive.f k = some true := ⟨200, by decide +kernel⟩
/-- Back, in one contract -/
theorem pv_back (m n : Int) (A : Option Addr) (c : Nat) (l : List Int) (A0 : Option Addr) (c0 : Nat) (s : List Int) (t : Int) (w : World) (hr : Kd.C (Kd.int .u64) w A l.length l) (hc : l.length ≤ c) (hr0 : Kd.C (Kd.int .i64) w A0 s.length s) (hc0 : s.length ≤ c0) (hm : s.length ≤ 4611686018427387904) (ht : shape_Check.f m n l = some t)
    (p1 p2 ep : Int) (lp : List Int) (hno : pvReady m t s ≠ 0 → p1 = 0 ∧ p2 = 0 ∧ lp = [] ∧ ep = pvReady m t s) (hok : pvReady m t s = 0 → p1 = m ∧ p2 = n ∧ lp = pvBk l n.toNat s s.length ∧ ep = 0) :
    Calls Try.prog 42 #[.agg #[.int .i64 m, .int .i64 n, .slice A l.length c], .slice A0 s.length c0] w fun e w' => ∃ v2_ : Value, e = .returned (.tuple #[.agg #[.int .i64 p1, .int .i64 p2, v2_], .int .i64 ep]) ∧ Kd.R (Kd.int .u64) 40 w' w.heap.size (fun _ => True) v2_ lp ∧ Below w.heap.size w w' := by
  by_cases h : pvReady m t s = 0
  · obtain ⟨rfl, rfl, rfl, rfl⟩ := hok h
    have ht0 : t = 0 := by
      by_cases h0 : t = 0
      · exact h0
      · unfold pvReady at h; rw [if_pos h0] at h; exact h
    subst ht0
    obtain ⟨M, N, pn⟩ := pv_N ht h
    have eN : p2.toNat = N := by have := pn.en; omega
    rw [eN]
    exact pv_back_ok p1 p2 M N A c l A0 c0 s w hr hc hr0 hc0 hm ht h pn
  · obtain ⟨rfl, rfl, rfl, e⟩ := hno h
    rw [e]
    exact pv_back_no m n A c l A0 c0 s t w hr hc hr0 hc0 hm ht _ rfl h
end Go.Proofs.Ytceghmceoliplaa.Pv
