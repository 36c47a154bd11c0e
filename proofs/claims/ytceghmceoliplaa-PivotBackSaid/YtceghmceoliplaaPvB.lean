/- PivotBack: Apply. -/
import Derived.Test.YtceghmceoliplaaProg
import Derived.Below
import Derived.Deep.Draws
import Derived.Deep.AppendLies
import Derived.Maps.AppendAt
import Derived.OwnWalk
import Derived.Laws.BytesArg
import Derived.Laws.MakeOwn
import Derived.Laws.OwnMore
import Derived.Deep.OwnRows
import Derived.Tactics
import Derived.Lib.ConvBytes
import Derived.Laws.Slices
import Derived.WalkKit
import Derived.KernelRfl
import Derived.RowKit3
import Derived.Deep.LoopGhost
import Derived.Deep.QuietTactic
import Derived.BigQuiet
import Derived.WideLaws
import Derived.Deep.DeepCutAuto
import Derived.Deep.CutBlock
import Derived.Deep.RegionHeld3
import Derived.Laws.Rows
import Derived.Lib.AppendStr
import Derived.ArgAppend
import Derived.Laws.IdiomCopy
import Derived.OrdersHeld
import Derived.Laws.BitsLemmas
import Derived.RowKit
import Derived.Test.YtceghmceoliplaaWWords
import Derived.Test.YtceghmceoliplaaWLast
import Derived.Test.YtceghmceoliplaaWTab
import Derived.Test.YtceghmceoliplaaWFour
import Derived.Test.YtceghmceoliplaaWQPut
import Derived.Test.YtceghmceoliplaaWApart
import Derived.Test.YtceghmceoliplaaWArr
import Derived.Test.YtceghmceoliplaaWZeros
import Derived.Test.YtceghmceoliplaaWFoot
import Derived.Test.YtceghmceoliplaaWKept
import Derived.Test.YtceghmceoliplaaWShare
import Derived.Test.YtceghmceoliplaaWN
import Derived.Test.YtceghmceoliplaaWFootNe
import Derived.Test.YtceghmceoliplaaWAt
import Derived.Test.YtceghmceoliplaaWEqStruct
import Derived.Test.YtceghmceoliplaaWRepsOne
import Derived.Test.YtceghmceoliplaaWInv
import Derived.Test.YtceghmceoliplaaWInvWords
import Derived.Test.YtceghmceoliplaaWGuard
import Derived.Test.YtceghmceoliplaaWNEv
import Derived.Test.YtceghmceoliplaaWMore
import Derived.Test.YtceghmceoliplaaPvA
namespace Go.Proofs.Ytceghmceoliplaa.Pv
open Go.RowKit Go.Proofs.YtceghmceoliplaaW.PrintWords Go.Proofs.YtceghmceoliplaaW.PrintLast Go.Proofs.YtceghmceoliplaaW.PrintMore
attribute [local go_sem] max2_int min2_int max_two min_two max_three min_three max_four min_four
set_option linter.unusedVariables false
set_option linter.unusedSimpArgs false
open Go.Proofs.Ytceghmceoliplaa.PPivotBack
def pvApp (l : List Int) (n : Nat) (s : List Int) : Nat → List Int
  | 0 => l
  | t + 1 => pvRows (pvApp l n s t) n t (s.getD t 0).toNat n
theorem pvApp_len (l : List Int) (n : Nat) (s : List Int) : ∀ t, (pvApp l n s t).length = l.length
  | 0 => rfl
  | t + 1 => by unfold pvApp; rw [pvRows_len, pvApp_len]
theorem pv_swap (m n i k : Int) (M N I K : Nat) (em : m = (M : Int)) (en : n = (N : Int)) (ei : i = (I : Int)) (ek : k = (K : Int)) (A : Option Addr) (c L : Nat) (l : List Int) (hL : l.length = L) (w : World) (base : Nat) (ok : Nat → Prop) (hO : Kd.R (Kd.int .u64) 40 w base ok (.slice A L c) l) (hn : 1 ≤ N ∧ N ≤ 64) (hI : I < M) (hK : K < M) (hM : M ≤ 64) (hl : L = M * N) :
    Calls Try.prog 50 #[.agg #[.int .i64 m, .int .i64 n, .slice A L c], .int .i64 i, .int .i64 k] w fun e w' => e = .returned (.tuple #[]) ∧ Kd.R (Kd.int .u64) 40 w' base ok (.slice A L c) (pvRows l N I K N) ∧ w.grownBy w' (Value.slice A L c).ownBlock := by
  subst hL
  exact pivot_swap_calls m n i k M N I K em en ei ek A c l w base ok hO hn hI hK hM hl
structure PvN (m n : Int) (M N : Nat) (l s : List Int) : Prop where
  em : m = (M : Int)
  en : n = (N : Int)
  m1 : 1 ≤ M
  m2 : M ≤ 64
  n1 : 1 ≤ N ∧ N ≤ 64
  ll : l.length = M * N
  sl : s.length ≤ M
  ok : pvOk m s = true
theorem pv_N {m n : Int} {l s : List Int} (ht : shape_Check.f m n l = some 0) (h : pvReady m 0 s = 0) : ∃ M N, PvN m n M N l s := by
  obtain ⟨M, N, rfl, rfl, h1, h2, h3, h4, h5⟩ := check_ok ht
  unfold pvReady at h
  rw [if_neg (by decide)] at h
  split at h
  · omega
  · rename_i k
    have hv : pvOk (M : Int) s = true := by
      cases hv : pvOk (M : Int) s with
      | true => rfl
      | false => exact absurd (.inr hv) k
    exact ⟨M, N, rfl, rfl, h1, h2, ⟨h3, h4⟩, h5, by omega, hv⟩
theorem PvN.at {m n : Int} {M N : Nat} {l s : List Int} (h : PvN m n M N l s) {T : Nat} (hT : T < s.length) : rd s (T : Int) = ((rd s (T : Int)).toNat : Int) ∧ (rd s (T : Int)).toNat < M ∧ T < M ∧ (s.getD T 0).toNat = (rd s (T : Int)).toNat := by
  have h1 := h.ok
  have h2 := h.em
  have h3 := h.sl
  unfold pvOk at h1
  rw [List.all_eq_true] at h1
  have h4 := h1 s[T] (List.getElem_mem hT)
  have h5 : rd s (T : Int) = s[T] := by unfold rd; rw [Int.toNat_natCast, List.getD_eq_getElem?_getD, List.getElem?_eq_getElem hT]; rfl
  unfold pvIn at h4
  have h6 := of_decide_eq_true h4
  rw [h5]
  refine ⟨by omega, by omega, by omega, ?_⟩
  rw [List.getD_eq_getElem?_getD, List.getElem?_eq_getElem hT]
  rfl
theorem PvN.pos {m n : Int} {M N : Nat} {l s : List Int} (h : PvN m n M N l s) : 0 < l.length := by
  rw [h.ll]; exact Nat.mul_pos h.m1 h.n1.1
theorem PvN.clone {m n : Int} {M N : Nat} {l s : List Int} (h : PvN m n M N l s) : slices_Clone_uint64_uint64.f l = some l := by
  have := Nat.mul_le_mul h.m2 h.n1.2
  have := h.ll
  unfold slices_Clone_uint64_uint64.f
  rw [if_pos (by omega)]
theorem PvN.step {m n : Int} {M N : Nat} {l s : List Int} (h : PvN m n M N l s) {T : Nat} (hT : T < s.length) : wrap64 ((T : Int) + 1) = ((T + 1 : Nat) : Int) := by
  have := h.sl
  have := h.m2
  unfold wrap64; omega
/-- the boxes of Apply and of Back -/
def PvI (w : World) (m n : Int) (u : Value) (W : World) : Prop := Below w.heap.size w W ∧ MatBox W w.heap.size m n u ∧ MatBox W (w.heap.size + 1) 0 0 (.slice none 0 0)
theorem PvI.below {w : World} {m n : Int} {u : Value} {W W' : World} (h : PvI w m n u W) (k : Below W.heap.size W W') : PvI w m n u W' := ⟨below_then h.1 h.1.size k, blk_below h.2.1 k, blk_below h.2.2 k⟩
theorem PvI.start (w : World) (m n : Int) (u : Value) : PvI w m n u ((w.alloc (.cells #[.int .i64 m, .int .i64 n, u] 36)).alloc (.cells #[.int .i64 0, .int .i64 0, .slice none 0 0] 36)) := by
  refine ⟨below_alloc (below_alloc (Below.refl _ w) _) _, blk_below (blk_new w _) (below_alloc (Below.refl _ _) _), ?_⟩
  have h := blk_new (w.alloc (.cells #[.int .i64 m, .int .i64 n, u] 36)) (.cells #[.int .i64 0, .int .i64 0, .slice none 0 0] 36)
  rw [World.size_alloc] at h
  exact h
theorem PvI.grown {w : World} {m n : Int} {u x : Value} {xs : List Int} {W W' : World} (h : PvI w m n u W) (g : W.grownBy W' x.ownBlock) (hx : Kd.R (Kd.int .u64) 40 W w.heap.size (fun _ => True) x xs) : PvI w m n u W' := ⟨h.1.grown g h.1.size (Kd.R_base hx), mb_grown h.2.1 g hx, mb_grown h.2.2 g hx⟩
theorem PvI.put {w : World} {m n : Int} {u v : Value} {W : World} (h : PvI w m n u W) : PvI w m n v (W.setCell ⟨w.heap.size, 2, none⟩ v) :=
  ⟨h.1.setCell (p := ⟨w.heap.size, 2, none⟩) (Nat.le_refl _) _, blk_put h.2.1 2 _ rfl, (Below.heap_setCell W _ _ _ (show w.heap.size + 1 ≠ w.heap.size by omega)).trans h.2.2⟩
set_option maxHeartbeats 8000000 in
set_option maxRecDepth 100000 in
theorem pv_apply (m n : Int) (A : Option Addr) (c : Nat) (l : List Int) (A0 : Option Addr) (c0 : Nat) (s : List Int) (t : Int) (w : World) (hr : Kd.C (Kd.int .u64) w A l.length l) (hc : l.length ≤ c) (hr0 : Kd.C (Kd.int .i64) w A0 s.length s) (hc0 : s.length ≤ c0) (hm : s.length ≤ 4611686018427387904) (ht : shape_Check.f m n l = some t)
    (p1 p2 ep : Int) (lp : List Int) (hno : pvReady m t s ≠ 0 → p1 = 0 ∧ p2 = 0 ∧ lp = [] ∧ ep = pvReady m t s) (hok : pvReady m t s = 0 → p1 = m ∧ p2 = n ∧ lp = pvApp l n.toNat s s.length ∧ ep = 0) :
    Calls Try.prog 41 #[.agg #[.int .i64 m, .int .i64 n, .slice A l.length c], .slice A0 s.length c0] w fun e w' => ∃ v2_ : Value, e = .returned (.tuple #[.agg #[.int .i64 p1, .int .i64 p2, v2_], .int .i64 ep]) ∧ Kd.R (Kd.int .u64) 40 w' w.heap.size (fun _ => True) v2_ lp ∧ Below w.heap.size w w' := by
  have hu36 := Try.underlying36
  have HR := Aside0.mk hr
  have HC := Aside0.mk hc
  have HR0 := Aside0.mk hr0
  have HC0 := Aside0.mk hc0
  have HM := Aside0.mk hm
  have HT := Aside0.mk ht
  have I0 := Aside0.mk (PvI.start w m n (.slice A l.length c))
  clear hr hc hr0 hc0 hm ht
  go_enter Try.func41, Try.ntmps41
  obtain ⟨rv, hrv⟩ : ∃ x, pvReady m t s = x := ⟨_, rfl⟩
  go_upto_region 2 with (first | (go_at_call 55; refine (pv_ready m n A c l A0 c0 s t _ (Kd.C_below HR.out I0.out.1) HC.out (Kd.C_below HR0.out I0.out.1) HC0.out HM.out HT.out).mono ?_; rintro e W1 ⟨rfl, hb1⟩; have I1 := Aside0.mk (I0.out.below hb1); rw [hrv]; clear hb1))
  by_cases hr0 : rv = 0
  · subst hr0
    obtain ⟨rfl, rfl, rfl, rfl⟩ := hok hrv
    have ht0 : t = 0 := by
      by_cases h : t = 0
      · exact h
      · unfold pvReady at hrv; rw [if_pos h] at hrv; exact hrv
    subst ht0
    obtain ⟨M, N, pn⟩ := pv_N HT.out hrv
    have PN := Aside0.mk pn
    have HPOS := Aside0.mk pn.pos
    clear hno hok hrv pn
    obtain ⟨x0, x1, x2⟩ := matBox_cells I1.out.2.1
    have xf := blk_frozen I1.out.2.1
    go_upto_region 5 with (first | (go_at_call 49; refine (slices_Clone_uint64_uint64.calls _ _ l l _ (Kd.C_below HR.out I1.out.1) HC.out PN.out.clone).mono ?_; rintro e W2 ⟨v2, rfl, hR2, hB2⟩; obtain ⟨g, cp, rfl, hgb, hgl, hcl, hg0⟩ := Kd.R_form hR2 HPOS.out; have R2 := Aside0.mk (Kd.R_lower (base' := w.heap.size) hR2 I1.out.1.size); have I2 := Aside0.mk (I1.out.below hB2); clear x0 x1 x2 xf hR2 hB2 hgb hgl hcl hg0; obtain ⟨x0, x1, x2⟩ := matBox_cells I2.out.2.1; have xf := blk_frozen I2.out.2.1))
    have I3 := Aside0.mk (I2.out.put (v := .slice (some ⟨g, 0, none⟩) l.length cp))
    have R3 := Aside0.mk (R_put24 (i := 2) (x := .slice (some ⟨g, 0, none⟩) l.length cp) R2.out I2.out.2.1)
    clear x0 x1 x2 xf I2 R2 I1 I0
    generalize W2.setCell ⟨w.heap.size, 2, none⟩ (.slice (some ⟨g, 0, none⟩) l.length cp) = W3 at *
    go_wp2
    go_loopg [22] s.length (fun hk v22 wc => ∃ (T : Nat), v22 = .int .i64 T ∧ Aside0 (T + hk = s.length) ∧ Aside0 (PvI w p1 p2 (.slice (some ⟨g, 0, none⟩) l.length cp) wc) ∧ Aside0 (Kd.R (Kd.int .u64) 40 wc w.heap.size (fun _ => True) (.slice (some ⟨g, 0, none⟩) l.length cp) (pvApp l N s T)))
    case atStart => exact ⟨0, rfl, ⟨by omega⟩, I3, R3⟩
    case round =>
      clear I3 R3
      obtain ⟨T, rfl, HJ, I4, R4⟩ := hrel
      by_cases hlt : T < s.length
      · have d0n : decide (T < s.length) = true := decide_eq_true hlt
        have d0 : decide ((T : Int) < (s.length : Int)) = true := decide_eq_true (by omega)
        have HLT := Aside0.mk hlt
        have g1 : 0 ≤ (T : Int) := Int.natCast_nonneg T
        have k1 : (T : Int) < (s.length : Int) := by omega
        obtain ⟨ad, e1, hx1⟩ := Kd.at_int HR0.out (T : Int) g1 k1
        cases e1
        replace hx1 := (I4.out.1.cell (World.block_lt_of_cell? w _ hx1)).trans hx1
        have AT := Aside0.mk (PN.out.at hlt)
        obtain ⟨kv, hkv⟩ : ∃ x, rd s (T : Int) = x := ⟨_, rfl⟩
        rw [hkv] at hx1
        have AK : Aside0 (kv = (kv.toNat : Int) ∧ kv.toNat < M ∧ T < M ∧ (s.getD T 0).toNat = kv.toNat) := ⟨by rw [← hkv]; exact AT.out⟩
        have hy1 := hx1
        rw [Int.toNat_natCast] at hy1
        replace g1 := eq_true g1
        replace k1 := eq_true k1
        clear hlt AT hkv
        obtain ⟨x0, x1, x2⟩ := matBox_cells I4.out.2.1
        go_wp2_with (first | (go_at_call 50; refine (pv_swap p1 p2 (T : Int) kv M N T kv.toNat PN.out.em PN.out.en rfl AK.out.1 (some ⟨g, 0, none⟩) cp l.length (pvApp l N s T) (pvApp_len l N s T) _ w.heap.size (fun _ => True) R4.out PN.out.n1 AK.out.2.2.1 AK.out.2.1 PN.out.m2 PN.out.ll).mono ?_; rintro e W5 ⟨rfl, hR5, hg5⟩; have I5 := Aside0.mk (I4.out.grown (x := .slice (some ⟨g, 0, none⟩) l.length cp) hg5 R4.out); have R5 := Aside0.mk hR5; clear x0 x1 x2 hg5 hR5))
        go_roundg (gk - 1)
        case measure => exact cut_m HJ.out HLT.out
        case rel => exact ⟨T + 1, by rw [PN.out.step HLT.out], ⟨cut_r HJ.out HLT.out⟩, I5, ⟨by unfold pvApp; rw [AK.out.2.2.2]; exact R5.out⟩⟩
      · have d0n : decide (T < s.length) = false := decide_eq_false hlt
        have d0 : decide ((T : Int) < (s.length : Int)) = false := decide_eq_false (by omega)
        have eT : T = s.length := by have := HJ.out; omega
        subst eT
        have eN : p2.toNat = N := by have := PN.out.en; omega
        clear hlt
        obtain ⟨x0, x1, x2⟩ := matBox_cells I4.out.2.1
        obtain ⟨z0, z1, z2⟩ := matBox_cells I4.out.2.2
        have zf := blk_frozen I4.out.2.2
        go_wp2
        have F3 := put3_box I4.out.2.2 p1 p2 (.slice (some ⟨g, 0, none⟩) l.length cp)
        refine bodyPost_ret (results_ct rfl _ _ (w.heap.size + 1) 36 #[.int .i64 p1, .int .i64 p2, .slice (some ⟨g, 0, none⟩) l.length cp] (0, 0) _ rfl F3 Try.underlying36 rfl (by kernel_rfl)) rfl ?_
        refine ⟨_, rfl, ?_, ?_⟩
        · rw [eN]; exact put3_R R4.out I4.out.2.2
        · exact put3_below I4.out.1 (Nat.le_add_right _ 1) _ _ _
  · have hbt : (rv != 0) = true := by simpa using hr0
    obtain ⟨rfl, rfl, rfl, e4⟩ := hno (by rw [hrv]; exact hr0)
    rw [hrv] at e4
    subst e4
    clear hno hok hr0
    obtain ⟨z0, z1, z2⟩ := matBox_cells I1.out.2.2
    have zf := blk_frozen I1.out.2.2
    go_wp2
    have F3 := put3_box I1.out.2.2 0 0 (.slice none 0 0)
    refine bodyPost_ret (results_ct rfl _ _ (w.heap.size + 1) 36 #[.int .i64 0, .int .i64 0, .slice none 0 0] (0, 0) _ rfl F3 Try.underlying36 rfl (by kernel_rfl)) rfl ?_
    exact ⟨_, rfl, Kd.R_nil _ _ _ _ _, put3_below I1.out.1 (Nat.le_add_right _ 1) _ _ _⟩
end Go.Proofs.Ytceghmceoliplaa.Pv
