/- The reference's comparisons of rules and models: l6SameRule, ModelSame. -/
import Derived.Test.YtgoaggojbcdgeaaMdQ
namespace Go.Proofs.Ytgoaggojbcdgeaa
open Go.RowKit Go.Shelf

set_option maxRecDepth 100000 in
set_option maxHeartbeats 4000000 in
theorem specSR_any (x : Int) (A1 : Option Addr) (n1 p1 : Nat) (v : List Int) (A2 : Option Addr) (n2 p2 : Nat) (c : List Int) (z : Int) (A3 : Option Addr) (n3 p3 : Nat) (rs : List (List Int)) (x' : Int) (A1' : Option Addr) (n1' p1' : Nat) (v' : List Int) (A2' : Option Addr) (n2' p2' : Nat) (c' : List Int) (z' : Int) (A3' : Option Addr) (n3' p3' : Nat) (rs' : List (List Int)) (w : World) (h : QR 0 w ((A1, n1, p1), (A2, n2, p2), (A3, n3, p3)) (x, v, c, z, rs)) (h' : QR 0 w ((A1', n1', p1'), (A2', n2', p2'), (A3', n3', p3')) (x', v', c', z', rs')) :
    Calls Try.prog 66 #[.agg #[.int .i64 x, .slice A1 n1 p1, .slice A2 n2 p2, .int .i64 z, .slice A3 n3 p3], .agg #[.int .i64 x', .slice A1' n1' p1', .slice A2' n2' p2', .int .i64 z', .slice A3' n3' p3']] w fun e w' => e = .returned (.bool (rlEq (x, v, c, z, rs) (x', v', c', z', rs'))) ∧ Ext w w' := by
  obtain ⟨r1, hr1⟩ : ∃ q, iEq v v' = q := ⟨_, rfl⟩
  obtain ⟨r2, hr2⟩ : ∃ q, iEq c c' = q := ⟨_, rfl⟩
  have HV : Hid (rlEq (x, v, c, z, rs) (x', v', c', z', rs') = (decide (x = x') && r1 && r2 && decide (z = z') && iiEq rs rs')) := by rw [Hid, rlEq_and, hr1, hr2]
  have hl : rs.length = n3 := h.2.2.len
  have hl' : rs'.length = n3' := h'.2.2.len
  have hn : n3 ≤ maxLen := h.2.2.1
  have hn' : n3' ≤ maxLen := h'.2.2.1
  unfold maxLen at hn hn'
  have HL := Lib.hid hl
  have HL' := Lib.hid hl'
  have H1 := Lib.hid hr1
  have H2 := Lib.hid hr2
  have HQ := Lib.hid h
  have HQ' := Lib.hid h'
  clear h h' hr1 hr2 hl hl'
  by_cases hx : x = x'
  · subst hx
    by_cases hz : z = z'
    · subst hz
      go_enter Try.func66, Try.ntmps66
      go_wp2_with fail
      refine (calls_val (specIs_any A1 n1 p1 v A1' n1' p1' v' _ HQ.out.1.1 (HQ.out.1.ext (((Ext.refl _).alloc _).alloc _)).2.1 HQ'.out.1.1 (HQ'.out.1.ext (((Ext.refl _).alloc _).alloc _)).2.1) (congrArg Value.bool H1.out)).mono ?_
      rintro e w1 ⟨rfl, hE1⟩
      obtain ⟨K0, K1⟩ := Blk.of2 hE1
      have HE1 := Lib.hid ((((Ext.refl w).alloc _).alloc _).trans hE1)
      have b2 := K0.cell 2
      have c2 := K1.cell 2
      have l0 := K0.lt
      have l1 := K1.lt
      have HK0 := Lib.hid K0
      have HK1 := Lib.hid K1
      clear K0 K1 hE1
      cases r1
      · go_wp2
        go_ret
        exact ⟨ret_b (by simp [HV.out]), HE1.out⟩
      go_wp2_with fail
      refine (calls_val (specIs_any A2 n2 p2 c A2' n2' p2' c' _ HQ.out.2.1.1 (HQ.out.2.1.ext HE1.out).2.1 HQ'.out.2.1.1 (HQ'.out.2.1.ext HE1.out).2.1) (congrArg Value.bool H2.out)).mono ?_
      rintro e w2 ⟨rfl, hE2⟩
      have HJ0 := Lib.hid (HK0.out.ext hE2)
      have HJ1 := Lib.hid (HK1.out.ext hE2)
      have HE2 := Lib.hid (HE1.out.trans hE2)
      clear b2 c2 l0 l1 HK0 HK1 hE2
      have b4 := HJ0.out.cell 4
      have c4 := HJ1.out.cell 4
      have l0 := HJ0.out.lt
      have l1 := HJ1.out.lt
      cases r2
      · go_wp2
        go_ret
        exact ⟨ret_b (by simp [HV.out]), HE2.out⟩
      have HW : Hid (rlEq (x, v, c, z, rs) (x, v', c', z, rs') = decide (rs = rs')) := by rw [Hid, HV.out]; simp [iiEq]
      by_cases hnn : n3 = n3'
      · subst hnn
        go_wp2
        clear b4 c4 l0 l1
        go_loopw [5] (fun i wr => ∃ k : Nat, k ≤ n3 ∧ i = .int .i64 k ∧ Ext w2 wr ∧ Hid (decide (rs = rs') = decide (rs.drop k = rs'.drop k))) (fun i _ => n3 - (intOf i).toNat)
        case atStart => exact ⟨0, Nat.zero_le _, rfl, Ext.refl _, rfl⟩
        case round =>
          obtain ⟨k, hk, rfl, hE, hD⟩ := hrel
          have b4 : wr.cell? ⟨w.heap.size, 4, none⟩ = some (.slice A3 n3 p3) := (HJ0.out.ext hE).cell 4
          have c4 : wr.cell? ⟨w.heap.size + 1, 4, none⟩ = some (.slice A3' n3 p3') := (HJ1.out.ext hE).cell 4
          by_cases hlt : k < n3
          · obtain ⟨b, off, B, m, q, xs, hA, hx, i1, hQ⟩ := (HQ.out.2.2.ext (HE2.out.trans hE)).at_ hlt
            obtain ⟨b', off', B', m', q', xs', hA', hx', j1, hQ'⟩ := (HQ'.out.2.2.ext (HE2.out.trans hE)).at_ hlt
            subst hA; subst hA'
            obtain ⟨D1, D2⟩ := dec_drop1 rs rs' k xs xs' hx hx' hD.out
            have HD1 := Lib.hid D1
            have HD2 := Lib.hid D2
            have SS := Lib.hid hQ
            have SS' := Lib.hid hQ'
            clear hx hx' hD HQ HQ' D1 D2 hQ hQ'
            have e0 : ∀ p : ExtBy wr, p.to.cell? ⟨b, off + k, none⟩ = some (.slice B m q) := fun p => p.cell i1
            have g0 : ∀ p : ExtBy wr, p.to.cell? ⟨b', off' + k, none⟩ = some (.slice B' m' q') := fun p => p.cell j1
            have e4 : ∀ p : ExtBy wr, p.to.cell? ⟨w.heap.size, 4, none⟩ = some (.slice (some ⟨b, off, none⟩) n3 p3) := fun p => p.cell b4
            have g4 : ∀ p : ExtBy wr, p.to.cell? ⟨w.heap.size + 1, 4, none⟩ = some (.slice (some ⟨b', off', none⟩) n3 p3') := fun p => p.cell c4
            clear i1 j1
            by_cases hcc : xs = xs'
            · have D := Lib.hid (HD1.out hcc)
              have hdec : Hid (iEq xs xs' = true) := decide_eq_true hcc
              clear HD1 HD2 hcc
              go_wp2_with fail
              refine wp_region_ext_lit (by kernel_rfl) (by kernel_rfl) ?_
              repeat (go_big_quiet_step (first
                | (go_at_call 65; exact ext_call (calls_val (specIs_any B m q xs B' m' q' xs' _ SS.out.1 (SS.out.2.1.ext (ExtBy.ext _)) SS'.out.1 (SS'.out.2.1.ext (ExtBy.ext _))) (congrArg Value.bool hdec.out)))))
              refine wpQuiet_nil ?_
              intro _ hw'
              obtain ⟨⟨wq, hq⟩, hw''⟩ := hw'
              subst hw''
              have HF := Lib.hid (hE.trans hq)
              clear e0 g0 e4 g4 hq b4 c4
              go_wp2
              go_roundw
              case rel => exact ⟨k + 1, by omega, by go_num, HF.out, D⟩
              case measure => simp [intOf]; omega
            · have D := Lib.hid (HD2.out hcc)
              have hdec : Hid (iEq xs xs' = false) := decide_eq_false hcc
              clear HD1 HD2 hcc
              go_wp2_with fail
              refine wp_region_ext_lit (by kernel_rfl) (by kernel_rfl) ?_
              repeat (go_big_quiet_step (first
                | (go_at_call 65; exact ext_call (calls_val (specIs_any B m q xs B' m' q' xs' _ SS.out.1 (SS.out.2.1.ext (ExtBy.ext _)) SS'.out.1 (SS'.out.2.1.ext (ExtBy.ext _))) (congrArg Value.bool hdec.out)))))
              refine wpQuiet_nil ?_
              intro _ hw'
              obtain ⟨⟨wq, hq⟩, hw''⟩ := hw'
              subst hw''
              have HF := Lib.hid (hE.trans hq)
              clear e0 g0 e4 g4 hq b4 c4
              go_wp2
              go_ret
              exact ⟨ret_b (by rw [HW.out]; exact D.out.symm), HE2.out.trans HF.out⟩
          · clear HQ HQ'
            go_wp2
            go_ret
            obtain rfl : k = n3 := by omega
            refine ⟨ret_b ?_, HE2.out.trans hE⟩
            rw [HW.out, hD.out]
            have a1 := HL.out
            have a2 := HL'.out
            rw [List.drop_of_length_le (by omega), List.drop_of_length_le (by omega)]
            rfl
      · have hb : ((n3 : Int) == (n3' : Int)) = false := by simp; omega
        have hne : Hid (rs ≠ rs') := by rintro rfl; have a1 := HL.out; have a2 := HL'.out; omega
        go_wp2
        go_ret
        exact ⟨ret_b (by rw [HW.out]; exact (decide_eq_false hne.out).symm), HE2.out⟩
    · have hb : (z == z') = false := by simpa using hz
      go_enter Try.func66, Try.ntmps66
      go_wp2
      go_ret
      exact ⟨ret_b (by simp [HV.out, hz]), ((Ext.refl _).alloc _).alloc _⟩
  · have hb : (x == x') = false := by simpa using hx
    go_enter Try.func66, Try.ntmps66
    go_wp2
    go_ret
    exact ⟨ret_b (by simp [HV.out, hx]), ((Ext.refl _).alloc _).alloc _⟩

set_option maxRecDepth 100000 in
set_option maxHeartbeats 4000000 in
theorem specMS_any (A : Option Addr) (n cap : Nat) (v : List Int) (B : Option Addr) (m q : Nat) (rs : List Rl) (A' : Option Addr) (n' cap' : Nat) (v' : List Int) (B' : Option Addr) (m' q' : Nat) (rs' : List Rl) (w : World)
    (h1 : QI 0 w (A, n, cap) v) (h2 : QRS 0 w (B, m, q) rs) (h1' : QI 0 w (A', n', cap') v') (h2' : QRS 0 w (B', m', q') rs') :
    Calls Try.prog 29 #[.agg #[.slice A n cap, .slice B m q], .agg #[.slice A' n' cap', .slice B' m' q']] w fun e w' => e = .returned (.bool (moEq (v, rs) (v', rs'))) ∧ Ext w w' := by
  obtain ⟨r1, hr1⟩ : ∃ q, iEq v v' = q := ⟨_, rfl⟩
  have HV : Hid (moEq (v, rs) (v', rs') = (r1 && rsEq rs rs')) := by rw [Hid, moEq_and, hr1]
  have hl : rs.length = m := h2.len
  have hl' : rs'.length = m' := h2'.len
  have hn : m ≤ maxLen := h2.1
  have hn' : m' ≤ maxLen := h2'.1
  unfold maxLen at hn hn'
  have HL := Lib.hid hl
  have HL' := Lib.hid hl'
  have H1 := Lib.hid hr1
  have Q1 := Lib.hid h1
  have Q2 := Lib.hid h2
  have Q1' := Lib.hid h1'
  have Q2' := Lib.hid h2'
  clear h1 h2 h1' h2' hr1 hl hl'
  go_enter Try.func29, Try.ntmps29
  go_wp2_with fail
  refine (calls_val (specIs_any A n cap v A' n' cap' v' _ Q1.out.1 (Q1.out.ext (((Ext.refl _).alloc _).alloc _)).2.1 Q1'.out.1 (Q1'.out.ext (((Ext.refl _).alloc _).alloc _)).2.1) (congrArg Value.bool H1.out)).mono ?_
  rintro e w1 ⟨rfl, hE1⟩
  obtain ⟨K0, K1⟩ := Blk.of2 hE1
  have HE1 := Lib.hid ((((Ext.refl w).alloc _).alloc _).trans hE1)
  have b1 := K0.cell 1
  have d1 := K1.cell 1
  have l0 := K0.lt
  have l1 := K1.lt
  have HJ0 := Lib.hid K0
  have HJ1 := Lib.hid K1
  clear K0 K1 hE1
  cases r1
  · go_wp2
    go_ret
    exact ⟨ret_b (by simp [HV.out]), HE1.out⟩
  have HW : Hid (moEq (v, rs) (v', rs') = decide (rs = rs')) := by rw [Hid, HV.out]; simp [rsEq]
  by_cases hnn : m = m'
  · subst hnn
    go_wp2
    clear b1 d1 l0 l1
    go_loopw [5] (fun i wr => ∃ k : Nat, k ≤ m ∧ i = .int .i64 k ∧ Ext w1 wr ∧ Hid (decide (rs = rs') = decide (rs.drop k = rs'.drop k))) (fun i _ => m - (intOf i).toNat)
    case atStart => exact ⟨0, Nat.zero_le _, rfl, Ext.refl _, rfl⟩
    case round =>
      obtain ⟨k, hk, rfl, hE, hD⟩ := hrel
      have b1 : wr.cell? ⟨w.heap.size, 1, none⟩ = some (.slice B m q) := (HJ0.out.ext hE).cell 1
      have d1 : wr.cell? ⟨w.heap.size + 1, 1, none⟩ = some (.slice B' m q') := (HJ1.out.ext hE).cell 1
      by_cases hlt : k < m
      · obtain ⟨b, off, x, A1, n1, p1, v, A2, n2, p2, c, bd, A3, n3, p3, rows, hA, hx, c0, c1, c2, c3, c4, hQ⟩ := (Q2.out.ext (HE1.out.trans hE)).at_ hlt
        obtain ⟨b', off', x', A1', n1', p1', v', A2', n2', p2', c', bd', A3', n3', p3', rows', hA', hx', f0, f1, f2, f3, f4, hQ'⟩ := (Q2'.out.ext (HE1.out.trans hE)).at_ hlt
        subst hA; subst hA'
        obtain ⟨D1, D2⟩ := dec_drop1 rs rs' k (x, v, c, bd, rows) (x', v', c', bd', rows') hx hx' hD.out
        have HD1 := Lib.hid D1
        have HD2 := Lib.hid D2
        have SS := Lib.hid hQ
        have SS' := Lib.hid hQ'
        clear hx hx' hD Q2 Q2' D1 D2 hQ hQ'
        have e0 : ∀ p : ExtBy wr, p.to.cell? ⟨b, off + k * 5, none⟩ = some (.int .i64 x) := fun p => p.cell c0
        have g0 : ∀ p : ExtBy wr, p.to.cell? ⟨b', off' + k * 5, none⟩ = some (.int .i64 x') := fun p => p.cell f0
        have e1 : ∀ p : ExtBy wr, p.to.cell? ⟨b, off + k * 5 + 1, none⟩ = some (.slice A1 n1 p1) := fun p => p.cell c1
        have g1 : ∀ p : ExtBy wr, p.to.cell? ⟨b', off' + k * 5 + 1, none⟩ = some (.slice A1' n1' p1') := fun p => p.cell f1
        have e2 : ∀ p : ExtBy wr, p.to.cell? ⟨b, off + k * 5 + 2, none⟩ = some (.slice A2 n2 p2) := fun p => p.cell c2
        have g2 : ∀ p : ExtBy wr, p.to.cell? ⟨b', off' + k * 5 + 2, none⟩ = some (.slice A2' n2' p2') := fun p => p.cell f2
        have e3 : ∀ p : ExtBy wr, p.to.cell? ⟨b, off + k * 5 + 3, none⟩ = some (.int .i64 bd) := fun p => p.cell c3
        have g3 : ∀ p : ExtBy wr, p.to.cell? ⟨b', off' + k * 5 + 3, none⟩ = some (.int .i64 bd') := fun p => p.cell f3
        have e4 : ∀ p : ExtBy wr, p.to.cell? ⟨b, off + k * 5 + 4, none⟩ = some (.slice A3 n3 p3) := fun p => p.cell c4
        have g4 : ∀ p : ExtBy wr, p.to.cell? ⟨b', off' + k * 5 + 4, none⟩ = some (.slice A3' n3' p3') := fun p => p.cell f4
        clear c0 c1 c2 c3 c4 f0 f1 f2 f3 f4
        have eb : ∀ p : ExtBy wr, p.to.cell? ⟨w.heap.size, 1, none⟩ = some (.slice (some ⟨b, off, none⟩) m q) := fun p => p.cell b1
        have gb : ∀ p : ExtBy wr, p.to.cell? ⟨w.heap.size + 1, 1, none⟩ = some (.slice (some ⟨b', off', none⟩) m q') := fun p => p.cell d1
        by_cases hcc : (x, v, c, bd, rows) = (x', v', c', bd', rows')
        · have D := Lib.hid (HD1.out hcc)
          have hdec : Hid (rlEq (x, v, c, bd, rows) (x', v', c', bd', rows') = true) := decide_eq_true hcc
          clear HD1 HD2 hcc
          go_wp2_with fail
          refine wp_region_ext_lit (by kernel_rfl) (by kernel_rfl) ?_
          repeat (go_big_quiet_step (first
            | (go_at_call 66; exact ext_call (calls_val (specSR_any x A1 n1 p1 v A2 n2 p2 c bd A3 n3 p3 rows x' A1' n1' p1' v' A2' n2' p2' c' bd' A3' n3' p3' rows' _ (SS.out.ext (ExtBy.ext _)) (SS'.out.ext (ExtBy.ext _))) (congrArg Value.bool hdec.out)))))
          refine wpQuiet_nil ?_
          intro _ hw'
          obtain ⟨⟨wq, hq⟩, hw''⟩ := hw'
          subst hw''
          have HF := Lib.hid (hE.trans hq)
          clear e0 e1 e2 e3 e4 g0 g1 g2 g3 g4 hq eb gb b1 d1
          go_wp2
          go_roundw
          case rel => exact ⟨k + 1, by omega, by go_num, HF.out, D⟩
          case measure => simp [intOf]; omega
        · have D := Lib.hid (HD2.out hcc)
          have hdec : Hid (rlEq (x, v, c, bd, rows) (x', v', c', bd', rows') = false) := decide_eq_false hcc
          clear HD1 HD2 hcc
          go_wp2_with fail
          refine wp_region_ext_lit (by kernel_rfl) (by kernel_rfl) ?_
          repeat (go_big_quiet_step (first
            | (go_at_call 66; exact ext_call (calls_val (specSR_any x A1 n1 p1 v A2 n2 p2 c bd A3 n3 p3 rows x' A1' n1' p1' v' A2' n2' p2' c' bd' A3' n3' p3' rows' _ (SS.out.ext (ExtBy.ext _)) (SS'.out.ext (ExtBy.ext _))) (congrArg Value.bool hdec.out)))))
          refine wpQuiet_nil ?_
          intro _ hw'
          obtain ⟨⟨wq, hq⟩, hw''⟩ := hw'
          subst hw''
          have HF := Lib.hid (hE.trans hq)
          clear e0 e1 e2 e3 e4 g0 g1 g2 g3 g4 hq eb gb b1 d1
          go_wp2
          go_ret
          exact ⟨ret_b (by rw [HW.out]; exact D.out.symm), HE1.out.trans HF.out⟩
      · clear Q2 Q2'
        go_wp2
        go_ret
        obtain rfl : k = m := by omega
        refine ⟨ret_b ?_, HE1.out.trans hE⟩
        rw [HW.out, hD.out]
        have a1 := HL.out
        have a2 := HL'.out
        rw [List.drop_of_length_le (by omega), List.drop_of_length_le (by omega)]
        rfl
  · have hb : ((m : Int) == (m' : Int)) = false := by simp; omega
    have hne : Hid (rs ≠ rs') := by rintro rfl; have a1 := HL.out; have a2 := HL'.out; omega
    go_wp2
    go_ret
    exact ⟨ret_b (by rw [HW.out]; exact (decide_eq_false hne.out).symm), HE1.out⟩
end Go.Proofs.Ytgoaggojbcdgeaa
