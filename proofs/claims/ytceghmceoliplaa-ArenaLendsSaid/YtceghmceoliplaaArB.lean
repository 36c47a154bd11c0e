import Derived.Test.YtceghmceoliplaaProg
import Derived.Below
import Derived.Deep.Draws
import Derived.Deep.AppendLies
import Derived.Maps.AppendAt
import Derived.OwnWalk
import Derived.Laws.BytesArg
import Derived.Laws.MakeOwn
import Derived.Laws.OwnMore
import Derived.Deep.OwnRows
import Derived.Tactics
import Derived.Lib.ConvBytes
import Derived.Laws.Slices
import Derived.WalkKit
import Derived.KernelRfl
import Derived.RowKit3
import Derived.Deep.LoopGhost
import Derived.Deep.QuietTactic
import Derived.BigQuiet
import Derived.WideLaws
import Derived.Deep.DeepCutAuto
import Derived.Deep.CutBlock
import Derived.Deep.RegionHeld3
import Derived.Laws.Rows
import Derived.Lib.AppendStr
import Derived.ArgAppend
import Derived.Laws.IdiomCopy
import Derived.OrdersHeld
import Derived.Laws.BitsLemmas
import Derived.RowKit
import Derived.Test.YtceghmceoliplaaWWords
import Derived.Test.YtceghmceoliplaaWLast
import Derived.Test.YtceghmceoliplaaWTab
import Derived.Test.YtceghmceoliplaaWFour
import Derived.Test.YtceghmceoliplaaWQPut
import Derived.Test.YtceghmceoliplaaWApart
import Derived.Test.YtceghmceoliplaaWArr
import Derived.Test.YtceghmceoliplaaWZeros
import Derived.Test.YtceghmceoliplaaWFoot
import Derived.Test.YtceghmceoliplaaWKept
import Derived.Test.YtceghmceoliplaaWShare
import Derived.Test.YtceghmceoliplaaWN
import Derived.Test.YtceghmceoliplaaWFootNe
import Derived.Test.YtceghmceoliplaaWAt
import Derived.Test.YtceghmceoliplaaWEqStruct
import Derived.Test.YtceghmceoliplaaWRepsOne
import Derived.Test.YtceghmceoliplaaWInv
import Derived.Test.YtceghmceoliplaaWInvWords
import Derived.Test.YtceghmceoliplaaWGuard
import Derived.Test.YtceghmceoliplaaWNEv
import Derived.Test.YtceghmceoliplaaWMore
import Derived.Test.YtceghmceoliplaaArA
import Derived.Lib.SliceRun
import Derived.Deep.RegionLaw
namespace Go.Proofs.Ytceghmceoliplaa.Ar
open Go.RowKit Go.Proofs.YtceghmceoliplaaW.PrintWords Go.Proofs.YtceghmceoliplaaW.PrintLast Go.Proofs.YtceghmceoliplaaW.PrintMore
attribute [local go_sem] max2_int min2_int max_two min_two max_three min_three max_four min_four
set_option linter.unusedVariables false
set_option linter.unusedSimpArgs false
theorem info40 : (Try.prog.info? 40).map (fun i => (i.zero, i.size, i.bytes)) = some (some (.int .u64 0), 1, 8) := by kernel_rfl
def slices_Clone_uint64_uint64.f (l0 : List Int) : Option (List Int) := if l0.length < 17592186044416 then some l0 else none
set_option maxHeartbeats 8000000 in
set_option maxRecDepth 100000 in
theorem slices_Clone_uint64_uint64.calls (A0 : Option Addr) (c0 : Nat) (l0 : List Int) (r : List Int) (w : World) (hr0 : Kd.C (Kd.int .u64) w A0 l0.length l0) (hc0 : l0.length ≤ c0) (h : slices_Clone_uint64_uint64.f l0 = some r) :
    Calls Try.prog 49 #[.slice A0 l0.length c0] w fun e w' => ∃ v0_ : Value, e = .returned (v0_) ∧ Kd.R (Kd.int .u64) 40 w' w.heap.size (fun _ => True) v0_ r ∧ Below w.heap.size w w' := by
  have q22 : ∀ (w : World) (a : Option Addr) (n c n' c' : Nat), (binOp .eql 34 (.slice a n c) (.slice none n' c')).run Try.prog w = .ok (.bool a.isNone) w := fun w a n c n' c' => Lib.run_eql_slice_nil w _ _ a n c n' c' Try.underlying34
  have HR0 := Aside0.mk hr0
  have HC0 := Aside0.mk hc0
  clear hr0 hc0
  have HB := Aside0.mk (Below.refl w.heap.size w)
  unfold slices_Clone_uint64_uint64.f at h
  by_cases c2 : l0.length < 17592186044416
  · rw [if_pos c2] at h
    have LMc2 := Aside0.mk c2
    clear c2
    obtain rfl := Option.some.inj h
    clear h
    cases A0 with
    | none =>
      have hz : l0 = [] := by
        have := HR0.out
        cases l0 with
        | nil => rfl
        | cons x xs => obtain ⟨ad, e1, _⟩ := Kd.at_int HR0.out 0 (by omega) (by simp); cases e1
      subst hz
      go_enter Try.func49, Try.ntmps49
      go_wp2
      go_ret
      exact ⟨_, rfl, Kd.R_nil _ _ _ _ _, by repeat (first | (with_reducible first | exact HB.out | apply below_alloc | apply pw_below_drewN | apply below_drew1) | exact HB.out)⟩
    | some ad0 =>
      obtain ⟨y122, hy122⟩ : ∃ y_ : List Int, y_ = (([] : List Int)) := ⟨_, rfl⟩
      obtain ⟨y125, hy125⟩ : ∃ y_ : List Int, y_ = (y122 ++ l0) := ⟨_, rfl⟩
      have LM2 : Aside0 (y122.length + l0.length < 17592186044416) := ⟨by rw [hy122]; simpa using LMc2.out⟩
      have E125 : Aside0 (y125 = l0) := ⟨by rw [hy125, hy122]; rfl⟩
      have Ny122 := Aside0.mk hy122
      have Ny125 := Aside0.mk hy125
      clear hy122 hy125
      go_enter Try.func49, Try.ntmps49
      go_wp2_with (first | ((with_reducible refine gate_dst (N := 5) rfl ?_); refine Kd.R_lit (Kd.int .u64) _ 40 ?hg (N := 5) ?hd (xs := ([] : List Int)) (inner := []) (ok := fun _ => True) (okp := fun _ => True) ?hr ?hp (fun _ hk => hk) trivial (Below.refl _ _) (Nat.le_refl _) (by simp) ?_; (case hd => rfl); (case hg => rfl); (case hr => first | (go_simp; done) | (go_simp; rfl)); (case hp => exact (Reps.none _ _)); intro v123 w3 ho4 hb hg_ hnew_; clear hg_ hnew_; (first | rw [← Ny122.out] at ho4 | (simp only [Int.reduceToNat] at ho4; rw [← Ny122.out] at ho4)); have n0_ := Aside0.mk (Kd.R_lower ho4 (below_size (by repeat (first | (with_reducible first | exact HB.out | apply below_alloc | apply pw_below_drewN | apply below_drew1) | exact HB.out)))); have n1_ := Aside0.mk (below_step (by repeat (first | (with_reducible first | exact HB.out | apply below_alloc | apply pw_below_drewN | apply below_drew1) | exact HB.out)) hb); clear HB; have HO124 := n0_; have HB := n1_; clear n0_ n1_; clear hb ho4) | ((with_reducible refine gate_builtin (b := .append) (xs := #[.tmp 5, .tmp 6]) rfl ?_); at_builtin; refine Kd.R_append_rows (Kd.int .u64) (w0 := w) w.heap.size rfl (.tmp 5) (.tmp 6) 34 40 (.int .u64 0) 8 rfl Try.underlying34 info40 rfl (by decide) (by omega) v123 y122 l0 _ _ _ (fun _ => True) (fun _ => False) rfl rfl ?aO ?aR (fun _ _ h => h) (fun _ h => h.elim) ?aF ?aB ?aS ?aL ?_; (case aR => repeat (first | exact (Kd.C_below HR0.out HB.out) | (with_reducible refine Kd.C_alloc ?_ _) | (with_reducible refine Kd.C_drewN ?_ _) | (with_reducible refine Kd.C_drew ?_))); (case aB => exact (by repeat (first | (with_reducible first | exact HB.out | apply below_alloc | apply pw_below_drewN | apply below_drew1) | exact HB.out))); (case aF => exact (fun _ _ => trivial)); (case aO => exact (by (with_reducible repeat (first | apply Kd.R_alloc | apply Kd.R_drewN | apply Kd.R_drew)); exact HO124.out)); (case aS => exact (below_size (by repeat (first | (with_reducible first | exact HB.out | apply below_alloc | apply pw_below_drewN | apply below_drew1) | exact HB.out)))); (case aL => have := LM2.out; omega); intro v126 w5 ho hb hg hat; rw [← Ny125.out] at ho; have n0_ := Aside0.mk (hb); have n1_ := Aside0.mk (ho); clear HB; clear HO124; have HB := n0_; have HO127 := n1_; clear n0_ n1_; clear ho hb hg hat))
      go_ret
      rw [E125.out] at HO127
      exact ⟨_, by first | rfl | (simp; done) | (simp [*]; done), by (with_reducible repeat (first | apply Kd.R_alloc | apply Kd.R_drewN | apply Kd.R_drew)); exact HO127.out, by repeat (first | (with_reducible first | exact HB.out | apply below_alloc | apply pw_below_drewN | apply below_drew1) | exact HB.out)⟩
  · rw [if_neg c2] at h
    cases h
/- Take, Words and Lend of an arena, each with its contract. No condition. -/
theorem ar_C {w : World} {p g : Nat} {ws : List Int} {used high : Int} (h : ArAt w p g ws used high) (hl : ws.length ≤ 1048576) : Kd.C (Kd.int .u64) w (some ⟨g, 0, none⟩) ws.length ws := by
  refine Kd.C_of_reads (d := (0 : Int)) (h1 := fun _ => rfl) ⟨rfl, by omega, fun _ => ⟨_, rfl, fun j hj => ?_⟩⟩
  rw [add_plain, blk_cell h.2]
  simp [U64, List.getD_eq_getElem?_getD, List.getElem?_eq_getElem hj]
theorem ar_words {w : World} {p g : Nat} {ws : List Int} {used high : Int} (h : ArAt w p g ws used high) (hl : ws.length ≤ 1048576) :
    Calls Try.prog 29 #[.pointer (some ⟨p, 0, none⟩)] w fun e w' => ∃ v, e = .returned v ∧ Kd.R (Kd.int .u64) 40 w' w.heap.size (fun _ => True) v ws ∧ Below w.heap.size w w' := by
  have HI := Aside0.mk (ar_is h.1)
  have hc0 : w.cell? ⟨p, 0, none⟩ = some (.slice (some ⟨g, 0, none⟩) ws.length ws.length) := (blk_cell h.1 0).trans rfl
  have HC := Aside0.mk (ar_C h hl)
  have HF : Aside0 (slices_Clone_uint64_uint64.f ws = some ws) := ⟨by unfold slices_Clone_uint64_uint64.f; rw [if_pos (by omega)]⟩
  clear h hl
  go_enter Try.func29, Try.ntmps29
  go_wp2_with (first | ((with_reducible refine gate_callee (f := 48) rfl ?_); refine goesL_ (some 4) rfl rfl Try.func48 (by kernel_rfl) rfl #[.pointer (some ⟨p, 0, none⟩)] rfl (by (try simp only [List.map_toArray, List.map_cons, List.map_nil]); first | done | rfl) ?_; (refine HI.out.mono ?_); rintro e w1 ⟨rfl, rfl⟩; refine ⟨_, rfl, ?_⟩) | ((with_reducible refine gate_callee (f := 49) rfl ?_); refine goesL_ (some 10) rfl rfl Try.func49 (by kernel_rfl) rfl #[.slice (some ⟨g, 0, none⟩) ws.length ws.length] rfl (by (try simp only [List.map_toArray, List.map_cons, List.map_nil]); first | done | rfl) ?_; (refine (slices_Clone_uint64_uint64.calls _ _ ws ws _ HC.out (Nat.le_refl _) HF.out).mono ?_); rintro e w1 ⟨v, rfl, HR, HB⟩; have HR := Aside0.mk HR; have HB := Aside0.mk HB; refine ⟨_, rfl, ?_⟩))
  go_ret
  exact ⟨_, rfl, HR.out, HB.out⟩
structure Fr (p g : Nat) (w w' : World) : Prop where
  os : w'.os = w.os
  tape : w'.tape = w.tape
  output : w'.output = w.output
  size : w.heap.size ≤ w'.heap.size
  block : ∀ k, k < w.heap.size → k ≠ p → k ≠ g → w'.heap[k]? = w.heap[k]?
theorem Fr.refl (p g : Nat) (w : World) : Fr p g w w := ⟨rfl, rfl, rfl, Nat.le_refl _, fun _ _ _ _ => rfl⟩
theorem Fr.trans {p g : Nat} {a b c : World} (h : Fr p g a b) (k : Fr p g b c) : Fr p g a c :=
  ⟨k.os.trans h.os, k.tape.trans h.tape, k.output.trans h.output, Nat.le_trans h.size k.size, fun i hi h1 h2 => (k.block i (Nat.lt_of_lt_of_le hi h.size) h1 h2).trans (h.block i hi h1 h2)⟩
theorem Fr.below {p g : Nat} {a b w : World} (h : Fr p g w a) (k : Below a.heap.size a b) : Fr p g w b := h.trans ⟨k.os, k.tape, k.output, k.size, fun i hi _ _ => k.block i hi⟩
theorem Fr.alloc {p g : Nat} {w a : World} (h : Fr p g w a) (o : Obj) : Fr p g w (a.alloc o) := h.below ((Below.refl _ _).alloc (Nat.le_refl _) o)
theorem Fr.drewN {p g : Nat} {w a : World} (h : Fr p g w a) (q : Nat) : Fr p g w (a.drewN q) := h.below (pw_below_drewN (Below.refl _ _) q)
theorem Fr.drew {p g : Nat} {w a : World} (h : Fr p g w a) : Fr p g w a.drew := h.below (below_drew (Below.refl _ _))
theorem Fr.own {p g : Nat} {w a : World} (h : Fr p g w a) (i : Nat) (u : Value) : Fr p g w (a.setCell ⟨p, i, none⟩ u) := h.trans ⟨rfl, rfl, rfl, by simp [World.setCell], fun k _ h1 _ => Below.heap_setCell a _ u k h1⟩
theorem Fr.row {p g : Nat} {w a : World} (h : Fr p g w a) (i : Nat) (u : Value) : Fr p g w (a.setCell ⟨g, i, none⟩ u) := h.trans ⟨rfl, rfl, rfl, by simp [World.setCell], fun k _ _ h2 => Below.heap_setCell a _ u k h2⟩
theorem Fr.new {p g : Nat} {w a : World} (h : Fr p g w a) {b : Nat} (hb : w.heap.size ≤ b) (i : Nat) (u : Value) : Fr p g w (a.setCell ⟨b, i, none⟩ u) :=
  ⟨h.os, h.tape, h.output, Nat.le_trans h.size (by simp [World.setCell]), fun k hk h1 h2 => (Below.heap_setCell a _ u k (fun e => by have e1 : k = b := e; omega)).trans (h.block k hk h1 h2)⟩
theorem Fr.grown {p g : Nat} {w a b : World} (h : Fr p g w a) (k : a.grownBy b (some g)) : Fr p g w b := h.trans ⟨k.os, k.tape, k.output, k.size, fun i hi _ h2 => k.block i hi (fun e => h2 (by injection e))⟩
theorem Fr.outer {p g : Nat} {w a : World} (h : Fr p g w a) {B : Nat} (hp : B ≤ p) (hg : B ≤ g) (hB : B ≤ w.heap.size) : Below B w a := ⟨h.os, h.tape, h.output, h.size, fun k hk => h.block k (by omega) (by omega) (by omega)⟩
theorem ArAt.ne {w : World} {p g : Nat} {ws : List Int} {used high : Int} (h : ArAt w p g ws used high) : p ≠ g := blk_ne h.1 h.2 (by decide)
theorem ArAt.below {w w' : World} {p g : Nat} {ws : List Int} {used high : Int} (h : ArAt w p g ws used high) (k : Below w.heap.size w w') : ArAt w' p g ws used high :=
  ⟨(k.block p (blk_lt h.1)).trans h.1, (k.block g (blk_lt h.2)).trans h.2⟩
theorem ArAt.used {w : World} {p g : Nat} {ws : List Int} {used high : Int} (h : ArAt w p g ws used high) (m : Int) : ArAt (w.setCell ⟨p, 1, none⟩ (.int .i64 m)) p g ws m high :=
  ⟨blk_set h.1 1 _, (Below.heap_setCell w _ _ g (fun e => h.ne e.symm)).trans h.2⟩
theorem ArAt.high {w : World} {p g : Nat} {ws : List Int} {used high : Int} (h : ArAt w p g ws used high) (m : Int) : ArAt (w.setCell ⟨p, 2, none⟩ (.int .i64 m)) p g ws used m :=
  ⟨blk_set h.1 2 _, (Below.heap_setCell w _ _ g (fun e => h.ne e.symm)).trans h.2⟩
theorem ArAt.far {w : World} {p g : Nat} {ws : List Int} {used high : Int} (h : ArAt w p g ws used high) {b : Nat} (h1 : p ≠ b) (h2 : g ≠ b) (i : Nat) (u : Value) : ArAt (w.setCell ⟨b, i, none⟩ u) p g ws used high :=
  ⟨(Below.heap_setCell w _ _ p h1).trans h.1, (Below.heap_setCell w _ _ g h2).trans h.2⟩
theorem U64_len (ws : List Int) : (U64 ws).size = ws.length := by simp [U64]
theorem U64_get {w : World} {g T : Nat} {ws : List Int} (h : w.heap[g]? = some (.cells (U64 ws) T (0, 0))) {i : Nat} (hi : i < ws.length) : w.cell? ⟨g, i, none⟩ = some (.int .u64 (ws.getD i 0)) := by
  rw [blk_cell h]
  simp [U64, List.getD_eq_getElem?_getD, List.getElem?_eq_getElem hi]
theorem U64_set {w : World} {g T : Nat} {ws : List Int} (h : w.heap[g]? = some (.cells (U64 ws) T (0, 0))) (i : Nat) (x : Int) : (w.setCell ⟨g, i, none⟩ (.int .u64 x)).heap[g]? = some (.cells (U64 (ws.set i x)) T (0, 0)) := by
  rw [blk_set h]
  simp [U64, List.map_set]
def wiped (ws : List Int) (f n : Nat) : List Int := ws.take f ++ List.replicate n 0 ++ ws.drop (f + n)
theorem wiped_len (ws : List Int) (f n : Nat) (h : f + n ≤ ws.length) : (wiped ws f n).length = ws.length := by simp [wiped]; omega
theorem wiped_get (ws : List Int) (f n i : Nat) (h : f + n ≤ ws.length) (hi : i < n) : (wiped ws f n).getD (f + i) 0 = 0 := by
  unfold wiped
  rw [List.append_assoc, List.getD_eq_getElem?_getD, List.getElem?_append_right (by simp; omega), List.getElem?_append_left (by simp; omega)]
  simp [show f + i - min f ws.length = i by omega, hi]
theorem wiped_low (ws : List Int) (f n i : Nat) (h : f + n ≤ ws.length) (hi : i < f) : (wiped ws f n).getD i 0 = ws.getD i 0 := by
  unfold wiped
  rw [List.append_assoc, List.getD_eq_getElem?_getD, List.getElem?_append_left (by simp; omega), List.getElem?_take_of_lt hi, List.getD_eq_getElem?_getD]
theorem clear_at {P : Program} {W : World} {g f n c : Nat} {ws : List Int} {t ty e : TypeId} {a : Addr} (ht : P.underlying t = some (.slice e)) (hv : ∀ w, (zeroValue e).run P w = .ok (.int .u64 0) w) (h : W.heap[g]? = some (.cells (U64 ws) e (0, 0)))
    (hfit : f + n ≤ ws.length) (ha : 0 < n → a = ⟨g, f, none⟩) :
    ∃ w1, (Builtin.clear_ #[t] ty #[.slice (some a) n c]).run P W = .ok (.tuple #[]) w1 ∧ w1.heap[g]? = some (.cells (U64 (wiped ws f n)) e (0, 0)) ∧ W.grownBy w1 (some g) := by
  rcases Nat.eq_zero_or_pos n with h0 | hpos
  · subst h0
    refine ⟨W, ?_, ?_, World.grownBy.refl W _⟩
    · simp [Builtin.clear_, run_underlying ht]
    · rw [show wiped ws f 0 = ws by simp [wiped]]; exact h
  · rw [ha hpos]
    refine ⟨_, Lib.run_clear_slice W t e ty (.int .u64 0) ht hv rfl rfl g f n c hpos (fun j hj => by rw [U64_get h (i := f + j) (by omega)]; rfl) (fun j hj => blk_frozen h _), ?_, ?_⟩
    · obtain ⟨cur', h3, h4, h5⟩ := setCells_row (List.replicate n (.int .u64 0)) f W (U64 ws) h (by rw [U64_len]; simpa using hfit)
      rw [h3]
      have : cur' = U64 (wiped ws f n) := by
        apply Array.ext'
        rw [h5]
        simp [U64, wiped]
      rw [this]
    · obtain ⟨s1, s2, s3, s4⟩ := setCells_same g (List.replicate n (.int .u64 0)) f W
      exact ⟨s1, s2, s3, by rw [s4]; exact Nat.le_refl _, fun k _ hk => setCells_far _ _ k (fun he => hk (by rw [he]))⟩
theorem step_clear {P : Program} {ops : Array Oper} {o : Oper} {a : Act} {w : World} {K : Act → World → Prop} {Q : Exit → Act → World → Prop} {E : Prop} (hgd : o.guard = none) (s : Operand) (t e : TypeId)
    (ho : o.op = .call { callee := .builtin .clear, args := #[s], argTypes := #[t] }) (ht : P.underlying t = some (.slice e)) (hv : ∀ w, (zeroValue e).run P w = .ok (.int .u64 0) w)
    {g f n c : Nat} {ws : List Int} {A : Addr} (hs : a.eval s = .slice (some A) n c) (hg : w.heap[g]? = some (.cells (U64 ws) e (0, 0))) (hfit : f + n ≤ ws.length) (ha : 0 < n → A = ⟨g, f, none⟩)
    (h : ∀ w1, w1.heap[g]? = some (.cells (U64 (wiped ws f n)) e (0, 0)) → w.grownBy w1 (some g) → K (a.put o.dst (.tuple #[])) w1) :
    if Region.wanted o (yielded ops a.tmps) = true then Oper.wp P o a w K Q else E := by
  have hw : Region.wanted o (yielded ops a.tmps) = true := by simp [Region.wanted, hgd]
  rw [if_pos hw]
  obtain ⟨w1, hr, h1, h2⟩ := clear_at (ty := o.type) (c := c) ht hv hg hfit ha
  unfold Oper.wp execOp
  simp only [ho, resolve, invoke, builtin, Sem.run_bind, Sem.run_pure, Result.andThen_ok, List.map_toArray, List.map_cons, List.map_nil, hs, hr]
  exact h w1 h1 h2
end Go.Proofs.Ytceghmceoliplaa.Ar
