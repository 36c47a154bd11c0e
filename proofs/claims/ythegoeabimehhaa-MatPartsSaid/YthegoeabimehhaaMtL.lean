/- MatParts: the law's walk. -/
import Derived.Test.YthegoeabimehhaaProg
import Derived.Below
import Derived.Deep.Draws
import Derived.Deep.AppendLies
import Derived.Maps.AppendAt
import Derived.OwnWalk
import Derived.Laws.BytesArg
import Derived.Laws.MakeOwn
import Derived.Laws.OwnMore
import Derived.Deep.OwnRows
import Derived.Tactics
import Derived.Lib.ConvBytes
import Derived.Laws.Slices
import Derived.WalkKit
import Derived.KernelRfl
import Derived.RowKit3
import Derived.Deep.LoopGhost
import Derived.Deep.QuietTactic
import Derived.BigQuiet
import Derived.WideLaws
import Derived.Deep.DeepCutAuto
import Derived.Deep.CutBlock
import Derived.Deep.RegionHeld3
import Derived.Laws.Rows
import Derived.Lib.AppendStr
import Derived.ArgAppend
import Derived.Laws.IdiomCopy
import Derived.OrdersHeld
import Derived.Laws.BitsLemmas
import Derived.RowKit
import Derived.Test.YthegoeabimehhaaWWords
import Derived.Test.YthegoeabimehhaaWLast
import Derived.Test.YthegoeabimehhaaWTab
import Derived.Test.YthegoeabimehhaaWFour
import Derived.Test.YthegoeabimehhaaWQPut
import Derived.Test.YthegoeabimehhaaWApart
import Derived.Test.YthegoeabimehhaaWArr
import Derived.Test.YthegoeabimehhaaWZeros
import Derived.Test.YthegoeabimehhaaWFoot
import Derived.Test.YthegoeabimehhaaWKept
import Derived.Test.YthegoeabimehhaaWShare
import Derived.Test.YthegoeabimehhaaWN
import Derived.Test.YthegoeabimehhaaWFootNe
import Derived.Test.YthegoeabimehhaaWAt
import Derived.Test.YthegoeabimehhaaWEqStruct
import Derived.Test.YthegoeabimehhaaWRepsOne
import Derived.Test.YthegoeabimehhaaWInv
import Derived.Test.YthegoeabimehhaaWInvWords
import Derived.Test.YthegoeabimehhaaWGuard
import Derived.Test.YthegoeabimehhaaWNEv
import Derived.Test.YthegoeabimehhaaWMore
import Derived.Test.YthegoeabimehhaaMtP
namespace Go.Proofs.Ythegoeabimehhaa.Mt
open Go.RowKit Go.Proofs.YthegoeabimehhaaW.PrintWords Go.Proofs.YthegoeabimehhaaW.PrintLast Go.Proofs.YthegoeabimehhaaW.PrintMore
attribute [local go_sem] max2_int min2_int max_two min_two max_three min_three max_four min_four
set_option linter.unusedVariables false
set_option linter.unusedSimpArgs false
open Go.Proofs.Ythegoeabimehhaa.PMatParts
set_option maxHeartbeats 8000000 in
set_option maxRecDepth 100000 in
theorem mp_walk (w : World) (m n : Int) (A : Option Addr) (c : Nat) (l : List Int) (i j rows cols : Int) (m2 n2 : Int) (A2 : Option Addr) (c2 : Nat) (l2 : List Int) (hr : Kd.C (Kd.int .u64) w A l.length l) (hc : l.length ≤ c) (hr2 : Kd.C (Kd.int .u64) w A2 l2.length l2) (hc2 : l2.length ≤ c2)
    (al : vernierlaw20_alive.f = some true) (t : Int) (ht : shape_Check.f m n l = some t) (q1 q2 ec : Int) (lc : List Int) (cu : mat_Cut.f m n l i j rows cols = some (q1, q2, lc, ec)) (p1 p2 ep : Int) (lp : List Int) (pa : mat_Paste.f m n l m2 n2 l2 i j = some (p1, p2, lp, ep))
    (h1 : t ≠ 0 → ec = 11 ∧ ep = 11 ∧ lc = [] ∧ lp = []) :
    Calls Try.prog 5 #[.agg #[.int .i64 m, .int .i64 n, .slice A l.length c], .int .i64 i, .int .i64 j, .int .i64 rows, .int .i64 cols, .agg #[.int .i64 m2, .int .i64 n2, .slice A2 l2.length c2]] w fun e w' => e = .returned (.bool true) ∧ Below w.heap.size w w' := by
  have hu24 := Try.underlying24
  have H0 := Aside0.mk hr
  have HC := Aside0.mk hc
  have H2 := Aside0.mk hr2
  have HC2 := Aside0.mk hc2
  have HAL := Aside0.mk al
  have HT := Aside0.mk ht
  have HCU := Aside0.mk cu
  have HPA := Aside0.mk pa
  have HH1 := Aside0.mk h1
  have I0 := Aside0.mk (MpA.start w m n m2 n2 (.slice A l.length c) (.slice A2 l2.length c2))
  clear hr hc hr2 hc2 al ht cu pa h1
  go_enter Try.func5, Try.ntmps5
  go_upto_region 4 with (first
    | (go_at_call 11; refine (vernierlaw20_alive.calls true _ HAL.out).mono ?_; rintro e W1 ⟨rfl, hb1⟩; have I1 := Aside0.mk (I0.out.below hb1); obtain ⟨x0, x1, x2⟩ := matBox_cells I1.out.2.1; obtain ⟨y0, y1, y2⟩ := matBox_cells I1.out.2.2; clear hb1)
    | (go_at_call 12; refine (mat_Cut.calls m n A c l i j rows cols _ _ _ _ _ (Kd.C_below H0.out I1.out.1) HC.out HCU.out).mono ?_; rintro e W2 ⟨vc, rfl, hR2, hb2⟩; obtain ⟨Ac, cc, rfl⟩ := Kd.R_slice hR2; have I2 := Aside0.mk (I1.out.below hb2); have R2 := Aside0.mk (Kd.R_lower (base' := w.heap.size) hR2 I1.out.1.size); have L2 : Aside0 (w.heap.size + 1 < W2.heap.size) := ⟨blk_lt I2.out.2.2⟩; clear x0 x1 x2 y0 y1 y2 hb2 hR2; obtain ⟨z0, z1, z2⟩ := matBox_cells (show MatBox _ W2.heap.size 0 0 (.slice none 0 0) from blk_new W2 (.cells #[.int .i64 0, .int .i64 0, .slice none 0 0] 24)); have zf := blk_frozen (show MatBox _ W2.heap.size 0 0 (.slice none 0 0) from blk_new W2 (.cells #[.int .i64 0, .int .i64 0, .slice none 0 0] 24))))
  have I3 := Aside0.mk (I2.out.below (below_alloc (Below.refl _ W2) (.cells #[.int .i64 q1, .int .i64 q2, (.slice Ac lc.length cc)] 24)))
  have C3 := Aside0.mk (mpPut_box (m := q1) (n := q2) R2.out L2.out)
  clear z0 z1 z2 zf I2 R2 L2
  generalize W2.alloc (.cells #[.int .i64 q1, .int .i64 q2, (.slice Ac lc.length cc)] 24) = W3 at *
  generalize W2.heap.size = bc at *
  obtain ⟨x0, x1, x2⟩ := matBox_cells I3.out.2.1
  obtain ⟨y0, y1, y2⟩ := matBox_cells I3.out.2.2
  go_upto_region 5 with (first
    | (go_at_call 13; refine (mat_Paste.calls m n A c l m2 n2 A2 c2 l2 i j _ _ _ _ _ (Kd.C_below H0.out I3.out.1) HC.out (Kd.C_below H2.out I3.out.1) HC2.out HPA.out).mono ?_; rintro e W4 ⟨vp, rfl, hR4, hb4⟩; obtain ⟨Ap, cp, rfl⟩ := Kd.R_slice hR4; have I4 := Aside0.mk (I3.out.below hb4); have C4 := Aside0.mk (C3.out.below hb4); have R4 := Aside0.mk (Kd.R_lower (base' := w.heap.size) hR4 I3.out.1.size); have L4 : Aside0 (w.heap.size + 1 < W4.heap.size) := ⟨blk_lt I4.out.2.2⟩; clear x0 x1 x2 y0 y1 y2 hb4 hR4; obtain ⟨z0, z1, z2⟩ := matBox_cells (show MatBox _ W4.heap.size 0 0 (.slice none 0 0) from blk_new W4 (.cells #[.int .i64 0, .int .i64 0, .slice none 0 0] 24)); have zf := blk_frozen (show MatBox _ W4.heap.size 0 0 (.slice none 0 0) from blk_new W4 (.cells #[.int .i64 0, .int .i64 0, .slice none 0 0] 24))))
  have I5 := Aside0.mk (I4.out.below (below_alloc (Below.refl _ W4) (.cells #[.int .i64 p1, .int .i64 p2, (.slice Ap lp.length cp)] 24)))
  have C5 := Aside0.mk (C4.out.below (below_alloc (Below.refl _ W4) (.cells #[.int .i64 p1, .int .i64 p2, (.slice Ap lp.length cp)] 24)))
  have P5 := Aside0.mk (mpPut_box (m := p1) (n := p2) R4.out L4.out)
  clear z0 z1 z2 zf I4 R4 L4 C4
  generalize W4.alloc (.cells #[.int .i64 p1, .int .i64 p2, (.slice Ap lp.length cp)] 24) = W5 at *
  generalize W4.heap.size = bp at *
  clear I3 C3 I0 I1
  obtain ⟨x0, x1, x2⟩ := matBox_cells I5.out.2.1
  obtain ⟨y0, y1, y2⟩ := matBox_cells I5.out.2.2
  by_cases ht0 : t = 0
  · subst ht0
    obtain ⟨M, N, rfl, rfl, hM1, hM2, hN1, hN2, hl⟩ := check_ok HT.out
    have CC := Aside0.mk (cut_cases HT.out hM2 hN2 HCU.out)
    have HN := Aside0.mk (show 1 ≤ M ∧ M ≤ 64 ∧ 1 ≤ N ∧ N ≤ 64 ∧ l.length = M * N from ⟨hM1, hM2, hN1, hN2, hl⟩)
    clear hM1 hM2 hN1 hN2 hl
    go_upto_region 7 with (first
      | (go_at_call 14; refine (shape_Check.calls M N A c l 0 _ (Kd.C_below H0.out I5.out.1) HC.out HT.out).mono ?_; rintro e W6 ⟨rfl, hb6⟩; have I6 := Aside0.mk (I5.out.below hb6); have C6 := Aside0.mk (C5.out.below hb6); have P6 := Aside0.mk (P5.out.below hb6); clear x0 x1 x2 y0 y1 y2; obtain ⟨x0, x1, x2⟩ := matBox_cells I6.out.2.1; clear hb6))
    go_cut [17] (fun v17 wc => ∃ (ob : Bool), v17 = .bool ob ∧ Aside0 (ob = decide (MpOut M N i j rows cols)) ∧ W6 = wc)
    case first => as_aux_lemma =>
      have hMN : M ≤ 64 ∧ N ≤ 64 := ⟨HN.out.2.1, HN.out.2.2.2.1⟩
      by_cases h0 : i < 0
      · have b0 : decide (i < 0) = true := decide_eq_true h0
        have HV : Aside0 (MpOut M N i j rows cols) := ⟨by unfold MpOut; omega⟩
        clear hMN h0
        go_wp2
        go_meet
        case rel => exact ⟨_, rfl, ⟨(decide_eq_true HV.out).symm⟩, rfl⟩
      · have b0 : decide (i < 0) = false := decide_eq_false h0
        by_cases h1 : j < 0
        · have b1 : decide (j < 0) = true := decide_eq_true h1
          have HV : Aside0 (MpOut M N i j rows cols) := ⟨by unfold MpOut; omega⟩
          clear hMN h0 h1
          go_wp2
          go_meet
          case rel => exact ⟨_, rfl, ⟨(decide_eq_true HV.out).symm⟩, rfl⟩
        · have b1 : decide (j < 0) = false := decide_eq_false h1
          by_cases h2 : rows < 1
          · have b2 : decide (rows < 1) = true := decide_eq_true h2
            have HV : Aside0 (MpOut M N i j rows cols) := ⟨by unfold MpOut; omega⟩
            clear hMN h0 h1 h2
            go_wp2
            go_meet
            case rel => exact ⟨_, rfl, ⟨(decide_eq_true HV.out).symm⟩, rfl⟩
          · have b2 : decide (rows < 1) = false := decide_eq_false h2
            by_cases h3 : cols < 1
            · have b3 : decide (cols < 1) = true := decide_eq_true h3
              have HV : Aside0 (MpOut M N i j rows cols) := ⟨by unfold MpOut; omega⟩
              clear hMN h0 h1 h2 h3
              go_wp2
              go_meet
              case rel => exact ⟨_, rfl, ⟨(decide_eq_true HV.out).symm⟩, rfl⟩
            · have b3 : decide (cols < 1) = false := decide_eq_false h3
              by_cases h4 : i > (M : Int)
              · have b4 : decide (i > (M : Int)) = true := decide_eq_true h4
                have HV : Aside0 (MpOut M N i j rows cols) := ⟨by unfold MpOut; omega⟩
                clear hMN h0 h1 h2 h3 h4
                go_wp2
                go_meet
                case rel => exact ⟨_, rfl, ⟨(decide_eq_true HV.out).symm⟩, rfl⟩
              · have b4 : decide (i > (M : Int)) = false := decide_eq_false h4
                by_cases h5 : j > (N : Int)
                · have b5 : decide (j > (N : Int)) = true := decide_eq_true h5
                  have HV : Aside0 (MpOut M N i j rows cols) := ⟨by unfold MpOut; omega⟩
                  clear hMN h0 h1 h2 h3 h4 h5
                  go_wp2
                  go_meet
                  case rel => exact ⟨_, rfl, ⟨(decide_eq_true HV.out).symm⟩, rfl⟩
                · have b5 : decide (j > (N : Int)) = false := decide_eq_false h5
                  have m6 : wrap64 ((M : Int) - i) = (M : Int) - i := mp_w h0 h4 hMN.1
                  by_cases h6 : rows > (M : Int) - i
                  · have b6 : decide (rows > (M : Int) - i) = true := decide_eq_true h6
                    have HV : Aside0 (MpOut M N i j rows cols) := ⟨by unfold MpOut; omega⟩
                    clear hMN h0 h1 h2 h3 h4 h5 h6
                    go_wp2
                    go_meet
                    case rel => exact ⟨_, rfl, ⟨(decide_eq_true HV.out).symm⟩, rfl⟩
                  · have b6 : decide (rows > (M : Int) - i) = false := decide_eq_false h6
                    have m7 : wrap64 ((N : Int) - j) = (N : Int) - j := mp_w h1 h5 hMN.2
                    by_cases h7 : cols > (N : Int) - j
                    · have b7 : decide (cols > (N : Int) - j) = true := decide_eq_true h7
                      have HV : Aside0 (MpOut M N i j rows cols) := ⟨by unfold MpOut; omega⟩
                      clear hMN h0 h1 h2 h3 h4 h5 h6 h7
                      go_wp2
                      go_meet
                      case rel => exact ⟨_, rfl, ⟨(decide_eq_true HV.out).symm⟩, rfl⟩
                    · have b7 : decide (cols > (N : Int) - j) = false := decide_eq_false h7
                      have HV : Aside0 (¬ MpOut M N i j rows cols) := ⟨by unfold MpOut; omega⟩
                      clear hMN h0 h1 h2 h3 h4 h5 h6 h7
                      go_wp2
                      go_meet
                      case rel => exact ⟨_, rfl, ⟨(decide_eq_false HV.out).symm⟩, rfl⟩
    case rest => as_aux_lemma =>
      obtain ⟨ob, rfl, HO, rfl⟩ := hcut
      go_upto_if 106 with (fail)
      go_cut [18] (fun v18 wc => Aside0 (MpA w M N m2 n2 (.slice A l.length c) (.slice A2 l2.length c2) wc) ∧ Aside0 (MpB w bp p1 p2 (.slice Ap lp.length cp) lp wc))
      case first =>
        cases ob with
        | true =>
          obtain ⟨_, rfl, rfl⟩ : MpOut M N i j rows cols ∧ lc = [] ∧ ec = 4 := by
            rcases CC.out with h | h
            · exact h
            · exact absurd (of_decide_eq_true HO.out.symm) h.1
          clear CC HO
          obtain ⟨c0, c1, c2⟩ := matBox_cells C6.out.1
          go_wp2
          go_meet
          case rel => exact ⟨I6, P6⟩
        | false =>
          obtain ⟨_, I, J, R, C, e1, e2, e3, e4, hR, hC, hIM, hJN, e5, e6, rfl, hlc⟩ : ¬ MpOut M N i j rows cols ∧ ∃ I J R C : Nat, i = I ∧ j = J ∧ rows = R ∧ cols = C ∧ 1 ≤ R ∧ 1 ≤ C ∧ I + R ≤ M ∧ J + C ≤ N ∧ q1 = R ∧ q2 = C ∧ ec = 0 ∧ lc = matCutRows l N I J C R := by
            rcases CC.out with h | h
            · exact absurd h.1 (of_decide_eq_false HO.out.symm)
            · exact h
          have QN := Aside0.mk (mp_cut HN.out hR hC hIM hJN hlc)
          have QE := Aside0.mk (show i = I ∧ j = J ∧ rows = R ∧ cols = C from ⟨e1, e2, e3, e4⟩)
          obtain rfl : q1 = rows := e5.trans e3.symm
          obtain rfl : q2 = cols := e6.trans e4.symm
          clear CC HO hR hC hIM hJN hlc e1 e2 e3 e4 e5 e6
          have b1 : ((lc.length : Int) != wrap64 (q1 * q2)) = false := QN.out.len_test2 QE.out
          obtain ⟨c0, c1, c2⟩ := matBox_cells C6.out.1
          go_wp2
          clear c0 c1 c2
          have NE := Aside0.mk (show w.heap.size ≠ bc ∧ bc ≠ w.heap.size from by have := C6.out.2.2; omega)
          go_loopg [18] R (fun hk v18 wc => ∃ (T : Nat), v18 = .int .i64 T ∧ Aside0 (T + hk = R) ∧ Aside0 (MpA w M N m2 n2 (.slice A l.length c) (.slice A2 l2.length c2) wc) ∧ Aside0 (MpB w bc q1 q2 (.slice Ac lc.length cc) lc wc) ∧ Aside0 (MpB w bp p1 p2 (.slice Ap lp.length cp) lp wc))
          case atStart => exact ⟨0, rfl, ⟨by omega⟩, I6, C6, P6⟩
          case round =>
            clear I5 C5 P5 I6 C6 P6
            obtain ⟨T, rfl, HJ, I7, C7, P7⟩ := hrel
            obtain ⟨gq, rfl⟩ : ∃ x, x = gk := ⟨_, rfl⟩
            by_cases hlt : T < R
            · have d0 : decide ((T : Int) < q1) = true := decide_eq_true (by have := QE.out.2.2.1; omega)
              have HLT := Aside0.mk hlt
              clear hlt
              go_wp2
              go_loopg [19] C (fun hk v19 wc => ∃ (K : Nat), v19 = .int .i64 K ∧ Aside0 (K + hk = C) ∧ Aside0 (MpA w M N m2 n2 (.slice A l.length c) (.slice A2 l2.length c2) wc) ∧ Aside0 (MpB w bc q1 q2 (.slice Ac lc.length cc) lc wc) ∧ Aside0 (MpB w bp p1 p2 (.slice Ap lp.length cp) lp wc))
              case atStart => exact ⟨0, rfl, ⟨by omega⟩, I7, C7, P7⟩
              case round => as_aux_lemma =>
                clear I7 C7 P7
                obtain ⟨K, rfl, HK, I8, C8, P8⟩ := hrel
                by_cases hlk : K < C
                · have d1 : decide ((K : Int) < q2) = true := decide_eq_true (by have := QE.out.2.2.2; omega)
                  have HLK := Aside0.mk hlk
                  clear hlk
                  obtain ⟨L1, hL1⟩ : ∃ x : Int, (T : Int) * q2 = x := ⟨_, rfl⟩
                  obtain ⟨X1, hX1⟩ : ∃ x : Int, L1 + (K : Int) = x := ⟨_, rfl⟩
                  obtain ⟨IT, hIT⟩ : ∃ x : Int, i + (T : Int) = x := ⟨_, rfl⟩
                  obtain ⟨L2, hL2⟩ : ∃ x : Int, IT * (N : Int) = x := ⟨_, rfl⟩
                  obtain ⟨L3, hL3⟩ : ∃ x : Int, L2 + j = x := ⟨_, rfl⟩
                  obtain ⟨X2, hX2⟩ : ∃ x : Int, L3 + (K : Int) = x := ⟨_, rfl⟩
                  have QP := Aside0.mk (QN.out.pos2 QE.out HLT.out HLK.out hL1 hX1 hIT hL2 hL3 hX2)
                  clear hL1 hX1 hIT hL2 hL3 hX2
                  have w1 := QP.out.w1
                  have w2 := QP.out.w2
                  have w3 := QP.out.w3
                  have w4 := QP.out.w4
                  have w5 := QP.out.w5
                  have w6 := QP.out.w6
                  have v1 := wrap_i64 w1
                  have v2 := wrap_i64 w2
                  have v3 := wrap_i64 w3
                  have v4 := wrap_i64 w4
                  have v5 := wrap_i64 w5
                  have v6 := wrap_i64 w6
                  have eq := QP.out.eq
                  have g1 := QP.out.p1
                  have g2 := QP.out.p2
                  obtain ⟨ad1, e1, hx1⟩ := Kd.at_int (Kd.R_reads' C8.out.2.1).2.2 X1 g1 QP.out.q1
                  cases e1
                  obtain ⟨ad2, e2, hx2⟩ := Kd.at_int H0.out X2 g2 QP.out.q2
                  cases e2
                  replace hx2 := (I8.out.1.cell (World.block_lt_of_cell? w _ hx2)).trans hx2
                  replace g1 := eq_true g1
                  replace g2 := eq_true g2
                  have k1 := eq_true QP.out.q1
                  have k2 := eq_true QP.out.q2
                  obtain ⟨x0, x1, x2⟩ := matBox_cells I8.out.2.1
                  obtain ⟨c0, c1, c2⟩ := matBox_cells C8.out.1
                  go_wp2
                  go_quiet (fail)
                  go_wp2
                  go_roundg (gk - 1)
                  case measure => exact cut_m HK.out HLK.out
                  case rel => exact ⟨K + 1, by rw [mp_s2 HLK.out QN.out], ⟨cut_r HK.out HLK.out⟩, ⟨I8.out.below (pw_below_drewN (Below.refl _ _) _)⟩, ⟨C8.out.below (pw_below_drewN (Below.refl _ _) _)⟩, ⟨P8.out.below (pw_below_drewN (Below.refl _ _) _)⟩⟩
                · have d1 : decide ((K : Int) < q2) = false := decide_eq_false (by have := QE.out.2.2.2; omega)
                  have HS := Aside0.mk (mp_s HLT.out QN.out)
                  clear hlk
                  go_wp2
                  go_roundg (gq - 1)
                  case measure => exact cut_m HJ.out HLT.out
                  case rel => exact ⟨T + 1, by rw [HS.out], ⟨cut_r HJ.out HLT.out⟩, I8, C8, P8⟩
            · have d0 : decide ((T : Int) < q1) = false := decide_eq_false (by have := QE.out.2.2.1; omega)
              clear hlt
              have PA2 := Aside0.mk (paste_again2 QN.out HN.out.1 QE.out)
              have KC := Aside0.mk (Kd.R_reads' C7.out.2.1).2
              obtain ⟨x0, x1, x2⟩ := matBox_cells I7.out.2.1
              obtain ⟨c0, c1, c2⟩ := matBox_cells C7.out.1
              go_upto_region 22 with (first
                | (go_at_call 13; refine (mat_Paste.calls M N A c l q1 q2 Ac cc lc i j _ _ _ _ _ (Kd.C_below H0.out I7.out.1) HC.out KC.out.2 KC.out.1 PA2.out).mono ?_; rintro e W8 ⟨vq, rfl, hR8, hb8⟩; obtain ⟨Aq, cq, rfl⟩ := Kd.R_slice hR8; have I8 := Aside0.mk (I7.out.below hb8); have P8 := Aside0.mk (P7.out.below hb8); have R8 := Aside0.mk (Kd.R_lower (base' := w.heap.size) hR8 I7.out.1.size); have L8 : Aside0 (w.heap.size + 1 < W8.heap.size) := ⟨blk_lt I8.out.2.2⟩; clear x0 x1 x2 c0 c1 c2 hb8 hR8; obtain ⟨z0, z1, z2⟩ := matBox_cells (show MatBox _ W8.heap.size 0 0 (.slice none 0 0) from blk_new W8 (.cells #[.int .i64 0, .int .i64 0, .slice none 0 0] 24)); have zf := blk_frozen (show MatBox _ W8.heap.size 0 0 (.slice none 0 0) from blk_new W8 (.cells #[.int .i64 0, .int .i64 0, .slice none 0 0] 24))))
              have I9 := Aside0.mk (I8.out.below (below_alloc (Below.refl _ W8) (.cells #[.int .i64 M, .int .i64 N, (.slice Aq l.length cq)] 24)))
              have P9 := Aside0.mk (P8.out.below (below_alloc (Below.refl _ W8) (.cells #[.int .i64 M, .int .i64 N, (.slice Aq l.length cq)] 24)))
              have Q9 := Aside0.mk (mpPut_box (m := M) (n := N) R8.out L8.out)
              clear z0 z1 z2 zf I8 R8 L8 P8
              generalize W8.alloc (.cells #[.int .i64 M, .int .i64 N, (.slice Aq l.length cq)] 24) = W9 at *
              generalize W8.heap.size = bq at *
              have KQ := Aside0.mk (Kd.R_reads' Q9.out.2.1).2
              obtain ⟨x0, x1, x2⟩ := matBox_cells I9.out.2.1
              obtain ⟨q0, q1, q2⟩ := matBox_cells Q9.out.1
              go_wp2_with (first
                | (go_at_call 15; refine (shape_Same.calls (l.length + 1) M N A c l M N Aq cq l true _ (Kd.C_below H0.out I9.out.1) HC.out KQ.out.2 KQ.out.1 (same_self M N l (mp_ll HN.out))).mono ?_; rintro e W10 ⟨rfl, hb10⟩; have I10 := Aside0.mk (I9.out.below hb10); have P10 := Aside0.mk (P9.out.below hb10); clear x0 x1 x2 q0 q1 q2 hb10))
              go_meet
              case rel => exact ⟨I10, P10⟩
      case rest => as_aux_lemma =>
        obtain ⟨I7, P7⟩ := hcut
        obtain ⟨t2, ht2, _⟩ := check_tot m2 n2 l2
        have PC := Aside0.mk (paste_cases HT.out HN.out.2.1 HN.out.2.2.2.1 ht2 HPA.out)
        have HT2 := Aside0.mk ht2
        clear CC HO HPA I6 C6 P6 I5 C5 P5
        obtain ⟨y0, y1, y2⟩ := matBox_cells I7.out.2.2
        by_cases ht0 : t2 = 0
        · subst ht0
          by_cases ho : MpOut2 M N i j m2 n2
          · as_aux_lemma =>
            obtain ⟨rfl, rfl⟩ : lp = [] ∧ ep = 4 := by
              rcases PC.out with h | h | h
              · exact absurd rfl h.1
              · exact h.2.2
              · exact absurd ho h.2.1
            have HO := Aside0.mk ho
            obtain ⟨M2, N2, rfl, rfl, hM3, hM4, hN3, hN4, hl2⟩ := check_ok HT2.out
            clear hM3 hM4 hN3 hN4 hl2 ho
            go_upto_region 26 with (first
              | (go_at_call 14; refine (shape_Check.calls M2 N2 A2 c2 l2 0 _ (Kd.C_below H2.out I7.out.1) HC2.out HT2.out).mono ?_; rintro e W8 ⟨rfl, hb8⟩; have I8 := Aside0.mk (I7.out.below hb8); have P8 := Aside0.mk (P7.out.below hb8); clear y0 y1 y2; obtain ⟨x0, x1, x2⟩ := matBox_cells I8.out.2.1; obtain ⟨y0, y1, y2⟩ := matBox_cells I8.out.2.2; obtain ⟨p0, p1, p2⟩ := matBox_cells P8.out.1; clear hb8))
            by_cases h0 : i < 0
            · have b0 : decide (i < 0) = true := decide_eq_true h0
              clear h0
              go_wp2
              go_ret
              exact ⟨rfl, I8.out.1⟩
            · have b0 : decide (i < 0) = false := decide_eq_false h0
              by_cases h1 : j < 0
              · have b1 : decide (j < 0) = true := decide_eq_true h1
                clear h0 h1
                go_wp2
                go_ret
                exact ⟨rfl, I8.out.1⟩
              · have b1 : decide (j < 0) = false := decide_eq_false h1
                by_cases h2 : i > (M : Int)
                · have b2 : decide (i > (M : Int)) = true := decide_eq_true h2
                  clear h0 h1 h2
                  go_wp2
                  go_ret
                  exact ⟨rfl, I8.out.1⟩
                · have b2 : decide (i > (M : Int)) = false := decide_eq_false h2
                  by_cases h3 : j > (N : Int)
                  · have b3 : decide (j > (N : Int)) = true := decide_eq_true h3
                    clear h0 h1 h2 h3
                    go_wp2
                    go_ret
                    exact ⟨rfl, I8.out.1⟩
                  · have b3 : decide (j > (N : Int)) = false := decide_eq_false h3
                    have m4 : wrap64 ((M : Int) - i) = (M : Int) - i := mp_w h0 h2 HN.out.2.1
                    by_cases h4 : (M2 : Int) > (M : Int) - i
                    · have b4 : decide ((M2 : Int) > (M : Int) - i) = true := decide_eq_true h4
                      clear h0 h1 h2 h3 h4
                      go_wp2
                      go_ret
                      exact ⟨rfl, I8.out.1⟩
                    · have b4 : decide ((M2 : Int) > (M : Int) - i) = false := decide_eq_false h4
                      have m5 : wrap64 ((N : Int) - j) = (N : Int) - j := mp_w h1 h3 HN.out.2.2.2.1
                      by_cases h5 : (N2 : Int) > (N : Int) - j
                      · have b5 : decide ((N2 : Int) > (N : Int) - j) = true := decide_eq_true h5
                        clear h0 h1 h2 h3 h4 h5
                        go_wp2
                        go_ret
                        exact ⟨rfl, I8.out.1⟩
                      · exact absurd HO.out (by unfold MpOut2; omega)
          · as_aux_lemma =>
            obtain ⟨I, J, M2, N2, e1, e2, e3, e4, hM3, hN3, hi, hj, hl2, rfl, hlp⟩ : ∃ I J M2 N2 : Nat, i = I ∧ j = J ∧ m2 = M2 ∧ n2 = N2 ∧ 1 ≤ M2 ∧ 1 ≤ N2 ∧ I + M2 ≤ M ∧ J + N2 ≤ N ∧ l2.length = M2 * N2 ∧ ep = 0 ∧ lp = matPasteRows l N N2 l2 I J M2 := by
              rcases PC.out with h | h | h
              · exact absurd rfl h.1
              · exact absurd h.2.1 ho
              · exact h.2.2
            have QS := Aside0.mk (mp_paste HN.out hM3 hN3 hi hj hl2 hlp)
            have EQ := Aside0.mk (show i = I ∧ j = J ∧ m2 = M2 ∧ n2 = N2 from ⟨e1, e2, e3, e4⟩)
            clear hM3 hN3 hi hj hl2 hlp ho PC e1 e2 e3 e4
            obtain ⟨b0, b1, b2, b3, b4, b5, m4, m5⟩ := QS.out.tests EQ.out
            have bl : ((lp.length : Int) != (l.length : Int)) = false := QS.out.len_test
            go_upto_region 30 with (first
              | (go_at_call 14; refine (shape_Check.calls m2 n2 A2 c2 l2 0 _ (Kd.C_below H2.out I7.out.1) HC2.out HT2.out).mono ?_; rintro e W8 ⟨rfl, hb8⟩; have I8 := Aside0.mk (I7.out.below hb8); have P8 := Aside0.mk (P7.out.below hb8); clear y0 y1 y2; obtain ⟨x0, x1, x2⟩ := matBox_cells I8.out.2.1; obtain ⟨y0, y1, y2⟩ := matBox_cells I8.out.2.2; obtain ⟨p0, p1, p2⟩ := matBox_cells P8.out.1; clear hb8))
            clear x0 x1 x2 y0 y1 y2 p0 p1 p2 b0 b1 b2 b3 b4 b5 m4 m5 bl
            go_wp2
            go_loopg [22] l.length (fun hk v22 wc => ∃ (K : Nat), v22 = .int .i64 K ∧ Aside0 (K + hk = l.length) ∧ Aside0 (MpA w M N m2 n2 (.slice A l.length c) (.slice A2 l2.length c2) wc) ∧ Aside0 (MpB w bp p1 p2 (.slice Ap lp.length cp) lp wc))
            case atStart => exact ⟨0, rfl, ⟨by omega⟩, I8, P8⟩
            case round => as_aux_lemma =>
              clear I7 P7 I8 P8
              obtain ⟨K, rfl, HK, I9, P9⟩ := hrel
              obtain ⟨x0, x1, x2⟩ := matBox_cells I9.out.2.1
              by_cases hlk : K < l.length
              · have d1n : decide (K < l.length) = true := decide_eq_true hlk
                have d1 : decide ((K : Int) < (l.length : Int)) = true := decide_eq_true (by omega)
                have HLK := Aside0.mk hlk
                clear hlk
                obtain ⟨r, hr⟩ : ∃ x, K / N = x := ⟨_, rfl⟩
                obtain ⟨s, hs⟩ : ∃ x, K % N = x := ⟨_, rfl⟩
                obtain ⟨dr, hdr⟩ : ∃ x : Int, (r : Int) - i = x := ⟨_, rfl⟩
                obtain ⟨ds, hds⟩ : ∃ x : Int, (s : Int) - j = x := ⟨_, rfl⟩
                have QP := Aside0.mk (QS.out.pos EQ.out HLK.out hr hs hdr hds)
                clear hr hs hdr hds
                have z1 := QP.out.z1
                have z2 := QP.out.z2
                have w1 := QP.out.w1
                have w2 := QP.out.w2
                have w3 := QP.out.w3
                have w4 := QP.out.w4
                obtain ⟨nn, hnn⟩ : ∃ x : Int, (N : Int) = x := ⟨_, rfl⟩
                rw [hnn] at z1 z2 w1 w2 x1
                clear hnn
                have nz : ¬ nn = 0 := by simpa using z1
                have v1 := wrap_i64 w1
                have v3 := wrap_i64 w3
                have v4 := wrap_i64 w4
                have w1e : wrap64 ((K : Int) / nn) = (r : Int) := by rw [← Int.tdiv_eq_ediv_of_nonneg (Int.natCast_nonneg K)]; exact w1
                go_wp2
                go_quiet (fail)
                have I10 := Aside0.mk (I9.out.below (pw_below_drewN (Below.refl _ wr) nq))
                have P10 := Aside0.mk (P9.out.below (pw_below_drewN (Below.refl _ wr) nq))
                clear x0 x1 x2 I9 P9
                generalize wr.drewN nq = W10 at *
                obtain ⟨x0, x1, x2⟩ := matBox_cells I10.out.2.1
                obtain ⟨y0, y1, y2⟩ := matBox_cells I10.out.2.2
                obtain ⟨p0, p1, p2⟩ := matBox_cells P10.out.1
                have g1 : 0 ≤ (K : Int) := Int.natCast_nonneg K
                have k1 : (K : Int) < (l.length : Int) := Int.ofNat_lt.mpr HLK.out
                have k2 : (K : Int) < (lp.length : Int) := by rw [QS.out.len]; exact k1
                obtain ⟨ad1, e1, hx1⟩ := Kd.at_int H0.out (K : Int) g1 k1
                cases e1
                replace hx1 := (I10.out.1.cell (World.block_lt_of_cell? w _ hx1)).trans hx1
                obtain ⟨ad2, e2, hx2⟩ := Kd.at_int (Kd.R_reads' P10.out.2.1).2.2 (K : Int) g1 k2
                cases e2
                have hy1 := hx1
                rw [Int.toNat_natCast] at hy1
                have hy2 := hx2
                rw [Int.toNat_natCast] at hy2
                replace g1 := eq_true g1
                replace k1 := eq_true k1
                replace k2 := eq_true k2
                by_cases h0 : dr ≥ 0
                · have t0 : decide (dr ≥ 0) = true := decide_eq_true h0
                  have s0 : decide (0 ≤ dr) = true := decide_eq_true h0
                  by_cases h1 : dr < m2
                  · have t1 : decide (dr < m2) = true := decide_eq_true h1
                    by_cases h2 : ds ≥ 0
                    · have t2 : decide (ds ≥ 0) = true := decide_eq_true h2
                      have s2 : decide (0 ≤ ds) = true := decide_eq_true h2
                      by_cases h3 : ds < n2
                      · have t3 : decide (ds < n2) = true := decide_eq_true h3
                        obtain ⟨D, X, w5, w6, kx, eq⟩ := QP.out.at_ h0 h1 h2 h3
                        have gx : 0 ≤ (X : Int) := Int.natCast_nonneg X
                        obtain ⟨ad3, e3, hx3⟩ := Kd.at_int H2.out (X : Int) gx kx
                        cases e3
                        replace hx3 := (I10.out.1.cell (World.block_lt_of_cell? w _ hx3)).trans hx3
                        have hy3 := hx3
                        rw [Int.toNat_natCast] at hy3
                        replace gx := eq_true gx
                        replace kx := eq_true kx
                        clear h0 h1 h2 h3
                        go_wp2
                        go_roundg (gk - 1)
                        case measure => exact cut_m HK.out HLK.out
                        case rel => exact ⟨K + 1, by rw [mp_s3 HLK.out HN.out], ⟨cut_r HK.out HLK.out⟩, I10, P10⟩
                      · have t3 : decide (ds < n2) = false := decide_eq_false h3
                        have eq := QP.out.out (fun k => h3 (by omega))
                        clear h0 h1 h2 h3
                        go_wp2
                        go_roundg (gk - 1)
                        case measure => exact cut_m HK.out HLK.out
                        case rel => exact ⟨K + 1, by rw [mp_s3 HLK.out HN.out], ⟨cut_r HK.out HLK.out⟩, I10, P10⟩
                    · have t2 : decide (ds ≥ 0) = false := decide_eq_false h2
                      have s2 : decide (0 ≤ ds) = false := decide_eq_false h2
                      have eq := QP.out.out (fun k => h2 (by omega))
                      clear h0 h1 h2
                      go_wp2
                      go_roundg (gk - 1)
                      case measure => exact cut_m HK.out HLK.out
                      case rel => exact ⟨K + 1, by rw [mp_s3 HLK.out HN.out], ⟨cut_r HK.out HLK.out⟩, I10, P10⟩
                  · have t1 : decide (dr < m2) = false := decide_eq_false h1
                    have eq := QP.out.out (fun k => h1 (by omega))
                    clear h0 h1
                    go_wp2
                    go_roundg (gk - 1)
                    case measure => exact cut_m HK.out HLK.out
                    case rel => exact ⟨K + 1, by rw [mp_s3 HLK.out HN.out], ⟨cut_r HK.out HLK.out⟩, I10, P10⟩
                · have t0 : decide (dr ≥ 0) = false := decide_eq_false h0
                  have s0 : decide (0 ≤ dr) = false := decide_eq_false h0
                  have eq := QP.out.out (fun k => h0 (by omega))
                  clear h0
                  go_wp2
                  go_roundg (gk - 1)
                  case measure => exact cut_m HK.out HLK.out
                  case rel => exact ⟨K + 1, by rw [mp_s3 HLK.out HN.out], ⟨cut_r HK.out HLK.out⟩, I10, P10⟩
              · have d1n : decide (K < l.length) = false := decide_eq_false hlk
                have d1 : decide ((K : Int) < (l.length : Int)) = false := decide_eq_false (by omega)
                clear hlk
                obtain ⟨p0, p1, p2⟩ := matBox_cells P9.out.1
                have hl : (lp.length : Int) = (l.length : Int) := by rw [QS.out.len]
                go_wp2
                go_ret
                exact ⟨rfl, I9.out.1⟩
        · have hbt : (t2 != 0) = true := by simpa using ht0
          obtain ⟨rfl, rfl⟩ : lp = [] ∧ ep = 11 := by
            rcases PC.out with h | h | h
            · exact h.2
            · exact absurd h.1 ht0
            · exact absurd h.1 ht0
          go_wp2_with (first
            | (go_at_call 14; refine (shape_Check.calls m2 n2 A2 c2 l2 t2 _ (Kd.C_below H2.out I7.out.1) HC2.out HT2.out).mono ?_; rintro e W8 ⟨rfl, hb8⟩; have I8 := Aside0.mk (I7.out.below hb8); have P8 := Aside0.mk (P7.out.below hb8); clear y0 y1 y2; obtain ⟨p0, p1, p2⟩ := matBox_cells P8.out.1; clear hb8))
          go_ret
          exact ⟨rfl, I8.out.1⟩
  · have hbt : (t != 0) = true := by simpa using ht0
    obtain ⟨rfl, rfl, rfl, rfl⟩ := HH1.out ht0
    go_wp2_with (first
      | (go_at_call 14; refine (shape_Check.calls m n A c l t _ (Kd.C_below H0.out I5.out.1) HC.out HT.out).mono ?_; rintro e W6 ⟨rfl, hb6⟩; have I6 := Aside0.mk (I5.out.below hb6); have C6 := Aside0.mk (C5.out.below hb6); have P6 := Aside0.mk (P5.out.below hb6); obtain ⟨c0, c1, c2⟩ := matBox_cells C6.out.1; obtain ⟨p0, p1, p2⟩ := matBox_cells P6.out.1; clear x0 x1 x2 y0 y1 y2 hb6))
    go_ret
    exact ⟨rfl, I6.out.1⟩
theorem mp_alive : vernierlaw20_alive.f = some true := by decide +kernel
theorem MatParts_walk (W : World) (m n : Int) (A : Option Addr) (c : Nat) (l : List Int) (_wm : (Lit.int .i64 m).wf = true) (_wn : (Lit.int .i64 n).wf = true) (hr : Kd.C (Kd.int .u64) W A l.length l) (hc : l.length ≤ c) (_hm : l.length ≤ maxLen) (_hw : ∀ x ∈ l, (Lit.int .u64 x).wf = true)
    (i : Int) (_wi : (Lit.int .i64 i).wf = true) (j : Int) (_wj : (Lit.int .i64 j).wf = true) (rows : Int) (_wr : (Lit.int .i64 rows).wf = true) (cols : Int) (_wc : (Lit.int .i64 cols).wf = true)
    (m2 n2 : Int) (A2 : Option Addr) (c2 : Nat) (l2 : List Int) (_wm2 : (Lit.int .i64 m2).wf = true) (_wn2 : (Lit.int .i64 n2).wf = true) (hr2 : Kd.C (Kd.int .u64) W A2 l2.length l2) (hc2 : l2.length ≤ c2) (_hm2 : l2.length ≤ maxLen) (_hw2 : ∀ x ∈ l2, (Lit.int .u64 x).wf = true) :
    Calls Try.prog 5 #[.agg #[.int .i64 m, .int .i64 n, .slice A l.length c], .int .i64 i, .int .i64 j, .int .i64 rows, .int .i64 cols, .agg #[.int .i64 m2, .int .i64 n2, .slice A2 l2.length c2]] W fun e w' => e = .returned (.bool true) ∧ Below W.heap.size W w' := by
  obtain ⟨t, ht, h0⟩ := check_tot m n l
  obtain ⟨q1, q2, lc, ec, cu, h1⟩ := cut_tot m n l i j rows cols
  obtain ⟨p1, p2, lp, ep, pa, h2⟩ := paste_tot m n l m2 n2 l2 i j
  refine mp_walk W m n A c l i j rows cols m2 n2 A2 c2 l2 hr hc hr2 hc2 mp_alive t ht q1 q2 ec lc cu p1 p2 ep lp pa (fun k => ?_)
  have hn : shape_Check.f m n l ≠ some 0 := by
    rw [ht]
    intro h
    cases h
    exact k rfl
  exact ⟨(h1 hn).2, (h2 hn).2, (h1 hn).1, (h2 hn).1⟩
end Go.Proofs.Ythegoeabimehhaa.Mt
