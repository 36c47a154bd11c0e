/- PivotBack: Back. -/
import Derived.Test.YtceghmceoliplaaProg
import Derived.Below
import Derived.Deep.Draws
import Derived.Deep.AppendLies
import Derived.Maps.AppendAt
import Derived.OwnWalk
import Derived.Laws.BytesArg
import Derived.Laws.MakeOwn
import Derived.Laws.OwnMore
import Derived.Deep.OwnRows
import Derived.Tactics
import Derived.Lib.ConvBytes
import Derived.Laws.Slices
import Derived.WalkKit
import Derived.KernelRfl
import Derived.RowKit3
import Derived.Deep.LoopGhost
import Derived.Deep.QuietTactic
import Derived.BigQuiet
import Derived.WideLaws
import Derived.Deep.DeepCutAuto
import Derived.Deep.CutBlock
import Derived.Deep.RegionHeld3
import Derived.Laws.Rows
import Derived.Lib.AppendStr
import Derived.ArgAppend
import Derived.Laws.IdiomCopy
import Derived.OrdersHeld
import Derived.Laws.BitsLemmas
import Derived.RowKit
import Derived.Test.YtceghmceoliplaaWWords
import Derived.Test.YtceghmceoliplaaWLast
import Derived.Test.YtceghmceoliplaaWTab
import Derived.Test.YtceghmceoliplaaWFour
import Derived.Test.YtceghmceoliplaaWQPut
import Derived.Test.YtceghmceoliplaaWApart
import Derived.Test.YtceghmceoliplaaWArr
import Derived.Test.YtceghmceoliplaaWZeros
import Derived.Test.YtceghmceoliplaaWFoot
import Derived.Test.YtceghmceoliplaaWKept
import Derived.Test.YtceghmceoliplaaWShare
import Derived.Test.YtceghmceoliplaaWN
import Derived.Test.YtceghmceoliplaaWFootNe
import Derived.Test.YtceghmceoliplaaWAt
import Derived.Test.YtceghmceoliplaaWEqStruct
import Derived.Test.YtceghmceoliplaaWRepsOne
import Derived.Test.YtceghmceoliplaaWInv
import Derived.Test.YtceghmceoliplaaWInvWords
import Derived.Test.YtceghmceoliplaaWGuard
import Derived.Test.YtceghmceoliplaaWNEv
import Derived.Test.YtceghmceoliplaaWMore
import Derived.Test.YtceghmceoliplaaPvC
import Derived.Test.YtceghmceoliplaaPvB
import Derived.RangeFuncNested
import Derived.RangeFuncBound
import Derived.RangeFuncCalls
import Derived.RangeFuncLeaves
import Derived.RangeFuncWrites
import Derived.Shelf.Abstract
import Derived.Shelf.RegionOpen
import Derived.WalkKit
import Derived.OwnWalkIn
import Derived.TacticsInMore
import Derived.LoopNIn
import Derived.LoopIn
namespace Go.Proofs.Ytceghmceoliplaa.Pv
open Go.RowKit Go.Proofs.YtceghmceoliplaaW.PrintWords Go.Proofs.YtceghmceoliplaaW.PrintLast Go.Proofs.YtceghmceoliplaaW.PrintMore
attribute [local go_sem] max2_int min2_int max_two min_two max_three min_three max_four min_four
set_option linter.unusedVariables false
set_option linter.unusedSimpArgs false
open Go.Proofs.Ytceghmceoliplaa.PPivotBack
open Go.Shelf
attribute [local go_sem] Oper.semAt_some
def pvBk (l : List Int) (n : Nat) (s : List Int) : Nat → List Int
  | 0 => l
  | t + 1 => pvRows (pvBk l n s t) n (s.length - 1 - t) (rd s ((s.length - 1 - t : Nat) : Int)).toNat n
theorem pvBk_len (l : List Int) (n : Nat) (s : List Int) : ∀ t, (pvBk l n s t).length = l.length
  | 0 => rfl
  | t + 1 => by unfold pvBk; rw [pvRows_len, pvBk_len]
def pvFold (l : List Int) (n : Nat) : List (Nat × Int) → List Int := List.foldl (fun acc x => pvRows acc n x.1 x.2.toNat n) l
theorem pvFold_snoc (l : List Int) (n : Nat) (xs : List (Nat × Int)) (x : Nat × Int) : pvFold l n (xs ++ [x]) = pvRows (pvFold l n xs) n x.1 x.2.toNat n := by simp [pvFold]
theorem pvFold_up (l : List Int) (n : Nat) (s : List Int) : ∀ k, pvFold l n (pvUp s k) = pvBk l n s k
  | 0 => rfl
  | k + 1 => by rw [pvUp_succ, pvFold_snoc, pvFold_up]; rfl
theorem pvFold_len (l : List Int) (n : Nat) (xs : List (Nat × Int)) : (pvFold l n xs).length = l.length := by
  induction xs generalizing l with
  | nil => rfl
  | cons x xs ih => unfold pvFold at *; rw [List.foldl_cons, ih, pvRows_len]
/-- the swap that a round makes -/
def PvX (M : Nat) (x : Nat × Int) : Prop := x.1 < M ∧ 0 ≤ x.2 ∧ x.2 < (M : Int)
theorem PvN.x {m n : Int} {M N : Nat} {l s : List Int} (h : PvN m n M N l s) (q : Nat) (hq : q < s.length) : PvX M (q, rd s (q : Int)) := by
  have a := h.at hq
  exact ⟨a.2.2.1, by omega, by omega⟩
def PvKp (w : World) (Bs : Nat) (X Y : World) : Prop := Below w.heap.size X Y ∧ Y.heap[Bs]? = X.heap[Bs]?
def PvJ (w : World) (m n : Int) (sg : Value) (Bs N : Nat) (l : List Int) (pre : List (Nat × Int)) (W : World) : Prop := PvI w m n sg W ∧ Kd.R (Kd.int .u64) 40 W w.heap.size (fun k => k < Bs) sg (pvFold l N pre) ∧ Bs < W.heap.size
theorem PvJ.own {w : World} {m n : Int} {sg : Value} {Bs N B M : Nat} {l : List Int} (h1 : w.heap.size + 1 < B) (h2 : Bs ≤ B) : OwnFrom B (fun (pre : List {x : Nat × Int // PvX M x}) W => PvJ w m n sg Bs N l (pre.map (·.1)) W) := by
  rintro pre W W' row ⟨hI, hR, hB⟩ hg hr
  have hk : ∀ k, k < B → k < W.heap.size → W'.heap[k]? = W.heap[k]? := fun k hk hlt => hg.block k hlt (fun e => by have := (hr k e.symm).1; omega)
  refine ⟨⟨hI.1.grown hg hI.1.size (fun k e => by have := (hr k e).1; omega), (hk _ (by omega) (blk_lt hI.2.1)).trans hI.2.1, (hk _ (by omega) (blk_lt hI.2.2)).trans hI.2.2⟩, ?_⟩
  exact ⟨Kd.R_step hR (fun k ho hlt => hk k (Nat.lt_of_lt_of_le ho h2) hlt), Nat.lt_of_lt_of_le hB hg.size⟩
theorem pv_stops (A0 : Option Addr) (c0 : Nat) (s : List Int) (w W4 : World) (Bs M : Nat) (hr : Kd.C (Kd.int .i64) w A0 s.length s) (hm : s.length ≤ 4611686018427387904) (hOk : ∀ q, q < s.length → PvX M (q, rd s (q : Int))) (hb : Below w.heap.size w W4) (hB : W4.heap[Bs]? = some (.cells #[.slice A0 s.length c0] 22 (0, 0))) :
    SeqStopsK Fence.wide 2 Try.prog 62 #[.pointer (some ⟨Bs, 0, none⟩)] (fun x : {x : Nat × Int // PvX M x} => #[Value.int .i64 (x.1.1 : Int), Value.int .i64 x.1.2]) (PvKp w Bs) (fun ys => ys.map (·.1) = pvUp s s.length) (fun _ => True) s.length W4 :=
  fun l J Jx W hW _ _ hY h0 => pv_back1_in Fence.wide 2 trivial rfl (by omega) l Bs A0 c0 s w hr hm (PvX M) hOk J Jx hY W (below_then hb hb.size hW) (blk_below hB hW) h0
set_option maxHeartbeats 8000000 in
set_option maxRecDepth 100000 in
theorem pv_back_no (m n : Int) (A : Option Addr) (c : Nat) (l : List Int) (A0 : Option Addr) (c0 : Nat) (s : List Int) (t : Int) (w : World) (hr : Kd.C (Kd.int .u64) w A l.length l) (hc : l.length ≤ c) (hr0 : Kd.C (Kd.int .i64) w A0 s.length s) (hc0 : s.length ≤ c0) (hm : s.length ≤ 4611686018427387904) (ht : shape_Check.f m n l = some t)
    (rv : Int) (hrv : pvReady m t s = rv) (hr0' : rv ≠ 0) :
    Calls Try.prog 42 #[.agg #[.int .i64 m, .int .i64 n, .slice A l.length c], .slice A0 s.length c0] w fun e w' => ∃ v2_ : Value, e = .returned (.tuple #[.agg #[.int .i64 0, .int .i64 0, v2_], .int .i64 rv]) ∧ Kd.R (Kd.int .u64) 40 w' w.heap.size (fun _ => True) v2_ [] ∧ Below w.heap.size w w' := by
  have hu36 := Try.underlying36
  have HR := Aside0.mk hr
  have HC := Aside0.mk hc
  have HR0 := Aside0.mk hr0
  have HC0 := Aside0.mk hc0
  have HM := Aside0.mk hm
  have HT := Aside0.mk ht
  have HV := Aside0.mk hrv
  have I0 := Aside0.mk (PvI.start w m n (.slice A l.length c))
  have hbt : (rv != 0) = true := by simpa using hr0'
  clear hr hc hr0 hc0 hm ht hrv hr0'
  go_enter Try.func42, Try.ntmps42
  go_wp2_with (first | (go_at_call 55; refine (pv_ready m n A c l A0 c0 s t _ (Kd.C_below HR.out I0.out.1) HC.out (Kd.C_below HR0.out I0.out.1) HC0.out HM.out HT.out).mono ?_; rintro e W1 ⟨rfl, hb1⟩; have I1 := Aside0.mk (I0.out.below hb1); rw [HV.out]; clear hb1; obtain ⟨z0, z1, z2⟩ := matBox_cells I1.out.2.2; have zf := blk_frozen I1.out.2.2))
  have F3 := put3_box I1.out.2.2 0 0 (.slice none 0 0)
  refine bodyPost_ret (results_ct rfl _ _ (w.heap.size + 1) 36 #[.int .i64 0, .int .i64 0, .slice none 0 0] (0, 0) _ rfl F3 Try.underlying36 rfl (by kernel_rfl)) rfl ?_
  exact ⟨_, rfl, Kd.R_nil _ _ _ _ _, put3_below I1.out.1 (Nat.le_add_right _ 1) _ _ _⟩
set_option maxHeartbeats 8000000 in
set_option maxRecDepth 100000 in
theorem pv_back_ok (m n : Int) (M N : Nat) (A : Option Addr) (c : Nat) (l : List Int) (A0 : Option Addr) (c0 : Nat) (s : List Int) (w : World) (hr : Kd.C (Kd.int .u64) w A l.length l) (hc : l.length ≤ c) (hr0 : Kd.C (Kd.int .i64) w A0 s.length s) (hc0 : s.length ≤ c0) (hm : s.length ≤ 4611686018427387904) (ht : shape_Check.f m n l = some 0)
    (hrv : pvReady m 0 s = 0) (pn : PvN m n M N l s) :
    Calls Try.prog 42 #[.agg #[.int .i64 m, .int .i64 n, .slice A l.length c], .slice A0 s.length c0] w fun e w' => ∃ v2_ : Value, e = .returned (.tuple #[.agg #[.int .i64 m, .int .i64 n, v2_], .int .i64 0]) ∧ Kd.R (Kd.int .u64) 40 w' w.heap.size (fun _ => True) v2_ (pvBk l N s s.length) ∧ Below w.heap.size w w' := by
  have hu36 := Try.underlying36
  have HR := Aside0.mk hr
  have HC := Aside0.mk hc
  have HR0 := Aside0.mk hr0
  have HC0 := Aside0.mk hc0
  have HM := Aside0.mk hm
  have HT := Aside0.mk ht
  have HV := Aside0.mk hrv
  have PN := Aside0.mk pn
  have HPOS := Aside0.mk pn.pos
  have I0 := Aside0.mk (PvI.start w m n (.slice A l.length c))
  clear hr hc hr0 hc0 hm ht hrv pn
  refine (callsIn_wide (n := 3)).1 ?_
  have f1 : Fence.wide.fn 55 := trivial
  have f2 : Fence.wide.fn 49 := trivial
  have f3 : Fence.wide.fn 56 := trivial
  have f4 : Fence.wide.fn 50 := trivial
  refine callsIn_of_wp_marks Try.func42 rfl trivial ?_ rfl
  simp only [Try.ntmps42, List.size_toArray, List.length_cons, List.length_nil, Nat.reduceAdd, Nat.reduceSub, Array.replicate_succ, Array.replicate_zero, List.push_toArray, List.append_toArray, List.nil_append, List.cons_append]
  gi_wp2_with (first
    | (gi_at_call 55; refine (callsIn_wide.2 (pv_ready m n A c l A0 c0 s 0 _ (Kd.C_below HR.out I0.out.1) HC.out (Kd.C_below HR0.out I0.out.1) HC0.out HM.out HT.out)).mono ?_; rintro e W1 ⟨rfl, hb1⟩; have I1 := Aside0.mk (I0.out.below hb1); rw [HV.out]; clear hb1; obtain ⟨x0, x1, x2⟩ := matBox_cells I1.out.2.1; have xf := blk_frozen I1.out.2.1)
    | (gi_at_call 49; refine (callsIn_wide.2 (slices_Clone_uint64_uint64.calls _ _ l l _ (Kd.C_below HR.out I1.out.1) HC.out PN.out.clone)).mono ?_; rintro e W2 ⟨v2, rfl, hR2, hB2⟩; obtain ⟨g, cp, rfl, hgb, hgl, hcl, hg0⟩ := Kd.R_form hR2 HPOS.out; have R2 := Aside0.mk (Kd.R_lower (base' := w.heap.size) hR2 I1.out.1.size); have I2 := Aside0.mk (I1.out.below hB2); have G2 := Aside0.mk hgl; clear x0 x1 x2 xf hR2 hB2 hgb hgl hcl hg0; obtain ⟨x0, x1, x2⟩ := matBox_cells I2.out.2.1; have xf := blk_frozen I2.out.2.1)
    | (gi_at_call 56; refine (pv_backward Fence.wide _ trivial rfl _ _ _ _).mono ?_; rintro e w' ⟨rfl, rfl⟩))
  have I3 := Aside0.mk (I2.out.put (v := .slice (some ⟨g, 0, none⟩) l.length cp))
  have R3 := Aside0.mk (R_put24 (i := 2) (x := .slice (some ⟨g, 0, none⟩) l.length cp) R2.out I2.out.2.1)
  obtain ⟨W3, hW3⟩ : ∃ W3, W2.setCell ⟨w.heap.size, 2, none⟩ (.slice (some ⟨g, 0, none⟩) l.length cp) = W3 := ⟨_, rfl⟩
  have hs3 : W2.heap.size = W3.heap.size := by rw [← hW3]; simp
  have G3 := Aside0.mk (show g < W3.heap.size by rw [← hs3]; exact G2.out)
  have L3 := Aside0.mk (show w.heap.size + 1 < W3.heap.size by rw [← hs3]; exact blk_lt I2.out.2.2)
  rw [hW3] at I3 R3 ⊢
  rw [hs3]
  clear x0 x1 x2 xf hs3 hW3 I2 R2 I1 I0 G2
  obtain ⟨Bs, hBs⟩ : ∃ x, W3.heap.size = x := ⟨_, rfl⟩
  have B4 := Aside0.mk (blk_new W3 (.cells #[.slice A0 s.length c0] 22))
  have I4 := Aside0.mk (I3.out.below (below_alloc (Below.refl _ W3) (.cells #[.slice A0 s.length c0] 22)))
  have R4 := Aside0.mk (Kd.R_alloc (Kd.R_mono (ok' := fun k => k < W3.heap.size) (Kd.R_bound R3.out) (fun k hk => hk.2.2.1)) (.cells #[.slice A0 s.length c0] 22))
  obtain ⟨W4, hW4⟩ : ∃ W4, W3.alloc (.cells #[.slice A0 s.length c0] 22) = W4 := ⟨_, rfl⟩
  have hs4 : Aside0 (W4.heap.size = Bs + 1) := ⟨by rw [← hW4, ← hBs]; simp⟩
  rw [hW4] at B4 I4 R4 ⊢
  rw [hBs] at B4 R4 G3 L3 ⊢
  clear I3 R3 hBs hW4
  refine wpIn_rangeFunc_ownG (α := {x : Nat × Int // PvX M x}) rfl (by omega) (gf := 62) (lb := #[.pointer (some ⟨Bs, 0, none⟩)]) rfl trivial (enters_of Try.func62 (by kernel_rfl) rfl)
    (pv_stops A0 c0 s w W4 Bs M HR0.out HM.out PN.out.x I4.out.1 B4.out) (fun h k => ⟨h.1.trans k.1, k.2.trans h.2⟩)
    (fun W b o o' hb h hc hw => ⟨belowK_b (w := W4) I4.out.1.size W b o o' hb h hc hw, World.putObj_heap_other (by have := hs4.out; omega)⟩) (Below.refl _ _) (fun _ => rfl)
    (fun pre W => PvJ w m n (.slice (some ⟨g, 0, none⟩) l.length cp) Bs N l (pre.map (·.1)) W)
    (fun _ _ _ => False)
    (PvJ.own (by have := hs4.out; have := L3.out; omega) (by have := hs4.out; omega))
    (fun _ _ _ _ _ hs _ _ => hs)
    ⟨I4.out, R4.out, by rw [hs4.out]; exact Nat.lt_succ_self Bs⟩
    (fun x => { tmps := #[.agg #[.int .i64 m, .int .i64 n, .slice A l.length c], .slice A0 s.length c0, .pointer (some ⟨w.heap.size, 0, none⟩), undef, .pointer (some ⟨w.heap.size + 1, 0, none⟩), .int .i64 0, .int .i64 0, .int .i64 (x.1.1 : Int), .int .i64 x.1.2, .agg #[.int .i64 m, .int .i64 n, .slice A l.length c], .slice A0 s.length c0, .int .i64 0, .int .i64 0, .bool false, undef, undef, .pointer (some ⟨w.heap.size, 2, none⟩), .slice A l.length c, .slice (some ⟨g, 0, none⟩) l.length cp, .pointer (some ⟨w.heap.size, 2, none⟩), .slice A0 s.length c0, .func (.func 62) #[] #[.pointer (some ⟨Bs, 0, none⟩)], .int .i64 (x.1.1 : Int), .int .i64 x.1.2, undef, undef, undef, undef, undef], defers := [] }) ?assign ?body ?done ?stop
  case assign =>
    intro b x W K hK
    gi_wp2
    exact hK
  case body =>
    rintro b pre x W ⟨I5, R5, bl⟩ _
    have BL := Aside0.mk bl
    clear bl
    have I5 := Aside0.mk I5
    have R5 := Aside0.mk R5
    have X5 := Aside0.mk x.2
    obtain ⟨y0, y1, y2⟩ := matBox_cells I5.out.2.1
    obtain ⟨xi, hxi⟩ : ∃ y, x.1.1 = y := ⟨_, rfl⟩
    obtain ⟨xk, hxk⟩ : ∃ y, x.1.2 = y := ⟨_, rfl⟩
    have XB : Aside0 (xi < M ∧ xk = (xk.toNat : Int) ∧ xk.toNat < M) := ⟨by rw [← hxi, ← hxk]; have := X5.out; exact ⟨this.1, by have := this.2.1; omega, by have := this.2; omega⟩⟩
    have hfold : Aside0 (pvFold l N ((pre ++ [x]).map (·.1)) = pvRows (pvFold l N (pre.map (·.1))) N xi xk.toNat N) := ⟨by rw [List.map_append, ← hxi, ← hxk]; exact pvFold_snoc _ _ _ _⟩
    rw [hxi, hxk]
    clear hxi hxk X5
    gi_wp2_with (gi_at_call 50; refine (CallsIn.inRound b (callsIn_wide.2 (pv_swap m n (xi : Int) xk M N xi xk.toNat PN.out.em PN.out.en rfl XB.out.2.1 (some ⟨g, 0, none⟩) cp l.length (pvFold l N (pre.map (·.1))) (pvFold_len _ _ _) _ w.heap.size (fun k => k < Bs) R5.out PN.out.n1 XB.out.1 XB.out.2.2 PN.out.m2 PN.out.ll))).mono ?_; rintro e W6 ⟨rfl, hR6, hg6⟩)
    have RT := Kd.R_mono (ok' := fun _ => True) R5.out (fun _ _ => trivial)
    refine ⟨KeepsFrom.of_grownBy hg6 (fun j e => by cases e; have := hs4.out; have := G3.out; show g < _; omega), ⟨(Below.refl w.heap.size W).grown hg6 I5.out.1.size (Kd.R_base RT), ?_⟩, I5.out.grown hg6 RT, ?_⟩
    · exact hg6.block Bs BL.out (fun e => by have := G3.out; have e : some Bs = some g := e; injection e with e; omega)
    · rw [hfold.out]; exact ⟨hR6, Nat.lt_of_lt_of_le BL.out hg6.size⟩
  case done =>
    rintro D ys W hD hys ⟨I5, R5, _⟩ hK
    have RE : Kd.R (Kd.int .u64) 40 W w.heap.size (fun k => k < Bs) (.slice (some ⟨g, 0, none⟩) l.length cp) (pvBk l N s s.length) := by rw [← pvFold_up, ← hys]; exact R5
    have I5 := Aside0.mk I5
    have R5 := Aside0.mk RE
    obtain ⟨y0, y1, y2⟩ := matBox_cells I5.out.2.1
    obtain ⟨z0, z1, z2⟩ := matBox_cells I5.out.2.2
    have zf := blk_frozen I5.out.2.2
    clear hys RE
    gi_wp2
    have F3 := put3_box I5.out.2.2 m n (.slice (some ⟨g, 0, none⟩) l.length cp)
    have hK' : ((((W.setCell ⟨w.heap.size + 1, 0, none⟩ (.int .i64 m)).setCell ⟨w.heap.size + 1, 1, none⟩ (.int .i64 n)).setCell ⟨w.heap.size + 1, 2, none⟩ (.slice (some ⟨g, 0, none⟩) l.length cp))).heap[D]? = some (.deferred (some [])) := by
      have hne : D ≠ w.heap.size + 1 := by have := hs4.out; have := L3.out; omega
      exact (Below.heap_setCell _ _ _ _ hne).trans ((Below.heap_setCell _ _ _ _ hne).trans ((Below.heap_setCell _ _ _ _ hne).trans hK))
    have HB9 := put3_below I5.out.1 (Nat.le_add_right w.heap.size 1) (.int .i64 m) (.int .i64 n) (.slice (some ⟨g, 0, none⟩) l.length cp)
    have HR9 := put3_R (m' := m) (n' := n) (u' := .slice (some ⟨g, 0, none⟩) l.length cp) (Kd.R_mono (ok' := fun _ => True) R5.out (fun _ _ => trivial)) I5.out.2.2
    generalize ((W.setCell ⟨w.heap.size + 1, 0, none⟩ (.int .i64 m)).setCell ⟨w.heap.size + 1, 1, none⟩ (.int .i64 n)).setCell ⟨w.heap.size + 1, 2, none⟩ (.slice (some ⟨g, 0, none⟩) l.length cp) = W9 at *
    have HR10 : ∀ D, g < D → Kd.R (Kd.int .u64) 40 W9 w.heap.size (fun k => k < D) (.slice (some ⟨g, 0, none⟩) l.length cp) (pvBk l N s s.length) := fun D hD => Kd.R_of_own (enc := Value.int .u64) (h1 := fun _ => rfl) (Kd.own_of_R HR9) (fun k hk => by simp [Value.ownBlock] at hk; omega)
    refine ⟨by simp, .inl ⟨_, _, rfl, run_takeDeferred hK', ?_⟩⟩
    have hgr := grownBy_putObj' W9 D (.deferred none)
    have F4 : MatBox (W9.putObj D (.deferred none)) (w.heap.size + 1) m n (.slice (some ⟨g, 0, none⟩) l.length cp) := (hgr.block (w.heap.size + 1) (blk_lt F3) (fun e => by have := hs4.out; have := L3.out; cases e; omega)).trans F3
    refine ⟨_, results_ct rfl _ _ (w.heap.size + 1) 36 #[.int .i64 m, .int .i64 n, .slice (some ⟨g, 0, none⟩) l.length cp] (0, 0) _ rfl F4 Try.underlying36 rfl (by kernel_rfl), _, rfl, ?_, ?_⟩
    · exact Kd.R_mono (Kd.R_step (HR10 D (by have := hs4.out; have := G3.out; omega)) (fun k hk hlt => hgr.block k hlt (fun e => by cases e; exact absurd hk (Nat.lt_irrefl _)))) (fun _ _ => trivial)
    · exact HB9.grown hgr HB9.size (fun k e => by cases e; have := hs4.out; have := L3.out; omega)
  case stop =>
    rintro D c pre W _ _ h _
    exact h.elim
end Go.Proofs.Ytceghmceoliplaa.Pv
