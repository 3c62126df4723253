/- Comparisons of rules and models: eqRule, eqRuleS, eqModel; ModelSame, the program's and the reference's. -/
import Derived.Test.YtgoaggojbcdgeaaMdT
namespace Go.Proofs.Ytgoaggojbcdgeaa
open Go.RowKit Go.Shelf

def rlEq (a b : Rl) : Bool := decide (a = b)
theorem rlEq_and (x x' : Int) (v v' c c' : List Int) (z z' : Int) (rs rs' : List (List Int)) : rlEq (x, v, c, z, rs) (x', v', c', z', rs') = (decide (x = x') && iEq v v' && iEq c c' && decide (z = z') && iiEq rs rs') := by
  unfold rlEq iEq iiEq
  rw [Bool.eq_iff_iff]
  simp [and_assoc]
def rsEq (a b : List Rl) : Bool := decide (a = b)
theorem rsEq_self (a : List Rl) : rsEq a a = true := by simp [rsEq]
instance moDec : DecidableEq Mo := fun a b => decidable_of_iff (a.1 = b.1 ∧ a.2 = b.2) (by cases a; cases b; simp)
def moEq (a b : Mo) : Bool := decide (a = b)
theorem moEq_self (a : Mo) : moEq a a = true := by simp [moEq]
theorem moEq_and (v v' : List Int) (rs rs' : List Rl) : moEq (v, rs) (v', rs') = (iEq v v' && rsEq rs rs') := by
  unfold moEq iEq rsEq
  rw [Bool.eq_iff_iff]
  simp

set_option maxRecDepth 100000 in
set_option maxHeartbeats 4000000 in
theorem eqRule_any (x : Int) (A1 : Option Addr) (n1 p1 : Nat) (v : List Int) (A2 : Option Addr) (n2 p2 : Nat) (c : List Int) (z : Int) (A3 : Option Addr) (n3 p3 : Nat) (rs : List (List Int)) (x' : Int) (A1' : Option Addr) (n1' p1' : Nat) (v' : List Int) (A2' : Option Addr) (n2' p2' : Nat) (c' : List Int) (z' : Int) (A3' : Option Addr) (n3' p3' : Nat) (rs' : List (List Int)) (w : World) (h : QR 0 w ((A1, n1, p1), (A2, n2, p2), (A3, n3, p3)) (x, v, c, z, rs)) (h' : QR 0 w ((A1', n1', p1'), (A2', n2', p2'), (A3', n3', p3')) (x', v', c', z', rs')) :
    Calls Try.prog 93 #[.agg #[.int .i64 x, .slice A1 n1 p1, .slice A2 n2 p2, .int .i64 z, .slice A3 n3 p3], .agg #[.int .i64 x', .slice A1' n1' p1', .slice A2' n2' p2', .int .i64 z', .slice A3' n3' p3']] w fun e w' => e = .returned (.bool (rlEq (x, v, c, z, rs) (x', v', c', z', rs'))) ∧ Ext w w' := by
  obtain ⟨r1, hr1⟩ : ∃ q, iEq v v' = q := ⟨_, rfl⟩
  obtain ⟨r2, hr2⟩ : ∃ q, iEq c c' = q := ⟨_, rfl⟩
  obtain ⟨r3, hr3⟩ : ∃ q, iiEq rs rs' = q := ⟨_, rfl⟩
  have HV : Hid (rlEq (x, v, c, z, rs) (x', v', c', z', rs') = (decide (x = x') && r1 && r2 && decide (z = z') && r3)) := by rw [Hid, rlEq_and, hr1, hr2, hr3]
  have H1 := Lib.hid hr1
  have H2 := Lib.hid hr2
  have H3 := Lib.hid hr3
  have HQ := Lib.hid h
  have HQ' := Lib.hid h'
  clear h h' hr1 hr2 hr3

  by_cases hx : x = x'
  · subst hx
    go_enter Try.func93, Try.ntmps93
    go_wp2_with fail
    refine (calls_val (eqIntS_any A1 n1 p1 v A1' n1' p1' v' _ HQ.out.1.1 (HQ.out.1.ext (((Ext.refl _).alloc _).alloc _)).2.1 HQ'.out.1.1 (HQ'.out.1.ext (((Ext.refl _).alloc _).alloc _)).2.1) (congrArg Value.bool H1.out)).mono ?_
    rintro e w1 ⟨rfl, hE1⟩
    obtain ⟨K0, K1⟩ := Blk.of2 hE1
    have HE1 := Lib.hid ((((Ext.refl w).alloc _).alloc _).trans hE1)
    have b2 := K0.cell 2
    have c2 := K1.cell 2
    have l0 := K0.lt
    have l1 := K1.lt
    have HK0 := Lib.hid K0
    have HK1 := Lib.hid K1
    clear K0 K1 hE1
    cases r1
    · go_wp2
      go_ret
      exact ⟨ret_b (by simp [HV.out]), HE1.out⟩
    go_wp2_with fail
    refine (calls_val (eqIntS_any A2 n2 p2 c A2' n2' p2' c' _ HQ.out.2.1.1 (HQ.out.2.1.ext HE1.out).2.1 HQ'.out.2.1.1 (HQ'.out.2.1.ext HE1.out).2.1) (congrArg Value.bool H2.out)).mono ?_
    rintro e w2 ⟨rfl, hE2⟩
    have K0 := HK0.out.ext hE2
    have K1 := HK1.out.ext hE2
    have HE2 := Lib.hid (HE1.out.trans hE2)
    clear b2 c2 l0 l1 HK0 HK1 hE2
    have b3 := K0.cell 3
    have c3 := K1.cell 3
    have b4 := K0.cell 4
    have c4 := K1.cell 4
    have l0 := K0.lt
    have l1 := K1.lt
    clear K0 K1
    cases r2
    · go_wp2
      go_ret
      exact ⟨ret_b (by simp [HV.out]), HE2.out⟩
    by_cases hz : z = z'
    · subst hz
      go_wp2_with fail
      refine (calls_val (eqIntSS_any A3 n3 p3 rs A3' n3' p3' rs' _ (HQ.out.2.2.ext HE2.out) (HQ'.out.2.2.ext HE2.out)) (congrArg Value.bool H3.out)).mono ?_
      rintro e w3 ⟨rfl, hE3⟩
      have HE3 := Lib.hid (HE2.out.trans hE3)
      clear b3 c3 b4 c4 l0 l1 hE3
      cases r3
      all_goals
        go_wp2
        go_ret
        exact ⟨ret_b (by simp [HV.out]), HE3.out⟩
    · have hb : (z == z') = false := by simpa using hz
      go_wp2
      go_ret
      exact ⟨ret_b (by simp [HV.out, hz]), HE2.out⟩
  · have hb : (x == x') = false := by simpa using hx
    go_enter Try.func93, Try.ntmps93
    go_wp2
    go_ret
    exact ⟨ret_b (by simp [HV.out, hx]), (((Ext.refl _).alloc _).alloc _)⟩

set_option maxRecDepth 100000 in
set_option maxHeartbeats 4000000 in
theorem sameRule_any (x : Int) (A1 : Option Addr) (n1 p1 : Nat) (v : List Int) (A2 : Option Addr) (n2 p2 : Nat) (c : List Int) (z : Int) (A3 : Option Addr) (n3 p3 : Nat) (rs : List (List Int)) (x' : Int) (A1' : Option Addr) (n1' p1' : Nat) (v' : List Int) (A2' : Option Addr) (n2' p2' : Nat) (c' : List Int) (z' : Int) (A3' : Option Addr) (n3' p3' : Nat) (rs' : List (List Int)) (w : World) (h : QR 0 w ((A1, n1, p1), (A2, n2, p2), (A3, n3, p3)) (x, v, c, z, rs)) (h' : QR 0 w ((A1', n1', p1'), (A2', n2', p2'), (A3', n3', p3')) (x', v', c', z', rs')) :
    Calls Try.prog 70 #[.agg #[.int .i64 x, .slice A1 n1 p1, .slice A2 n2 p2, .int .i64 z, .slice A3 n3 p3], .agg #[.int .i64 x', .slice A1' n1' p1', .slice A2' n2' p2', .int .i64 z', .slice A3' n3' p3']] w fun e w' => e = .returned (.bool (rlEq (x, v, c, z, rs) (x', v', c', z', rs'))) ∧ Ext w w' := by
  obtain ⟨r1, hr1⟩ : ∃ q, iEq v v' = q := ⟨_, rfl⟩
  obtain ⟨r2, hr2⟩ : ∃ q, iEq c c' = q := ⟨_, rfl⟩
  obtain ⟨r3, hr3⟩ : ∃ q, iiEq rs rs' = q := ⟨_, rfl⟩
  have HV : Hid (rlEq (x, v, c, z, rs) (x', v', c', z', rs') = (decide (x = x') && r1 && r2 && decide (z = z') && r3)) := by rw [Hid, rlEq_and, hr1, hr2, hr3]
  have H1 := Lib.hid hr1
  have H2 := Lib.hid hr2
  have H3 := Lib.hid hr3
  have HQ := Lib.hid h
  have HQ' := Lib.hid h'
  clear h h' hr1 hr2 hr3

  by_cases hx : x = x'
  · subst hx
    go_enter Try.func70, Try.ntmps70
    go_wp2_with fail
    refine (calls_val (slEqI_any A1 n1 p1 v A1' n1' p1' v' _ HQ.out.1.1 (HQ.out.1.ext (((Ext.refl _).alloc _).alloc _)).2.1 HQ'.out.1.1 (HQ'.out.1.ext (((Ext.refl _).alloc _).alloc _)).2.1) (congrArg Value.bool H1.out)).mono ?_
    rintro e w1 ⟨rfl, hE1⟩
    obtain ⟨K0, K1⟩ := Blk.of2 hE1
    have HE1 := Lib.hid ((((Ext.refl w).alloc _).alloc _).trans hE1)
    have b2 := K0.cell 2
    have c2 := K1.cell 2
    have l0 := K0.lt
    have l1 := K1.lt
    have HK0 := Lib.hid K0
    have HK1 := Lib.hid K1
    clear K0 K1 hE1
    cases r1
    · go_wp2
      go_ret
      exact ⟨ret_b (by simp [HV.out]), HE1.out⟩
    go_wp2_with fail
    refine (calls_val (slEqI_any A2 n2 p2 c A2' n2' p2' c' _ HQ.out.2.1.1 (HQ.out.2.1.ext HE1.out).2.1 HQ'.out.2.1.1 (HQ'.out.2.1.ext HE1.out).2.1) (congrArg Value.bool H2.out)).mono ?_
    rintro e w2 ⟨rfl, hE2⟩
    have K0 := HK0.out.ext hE2
    have K1 := HK1.out.ext hE2
    have HE2 := Lib.hid (HE1.out.trans hE2)
    clear b2 c2 l0 l1 HK0 HK1 hE2
    have b3 := K0.cell 3
    have c3 := K1.cell 3
    have b4 := K0.cell 4
    have c4 := K1.cell 4
    have l0 := K0.lt
    have l1 := K1.lt
    clear K0 K1
    cases r2
    · go_wp2
      go_ret
      exact ⟨ret_b (by simp [HV.out]), HE2.out⟩
    by_cases hz : z = z'
    · subst hz
      go_wp2_with fail
      refine (calls_val (eqfII_any A3 n3 p3 rs A3' n3' p3' rs' _ (HQ.out.2.2.ext HE2.out) (HQ'.out.2.2.ext HE2.out)) (congrArg Value.bool H3.out)).mono ?_
      rintro e w3 ⟨rfl, hE3⟩
      have HE3 := Lib.hid (HE2.out.trans hE3)
      clear b3 c3 b4 c4 l0 l1 hE3
      cases r3
      all_goals
        go_wp2
        go_ret
        exact ⟨ret_b (by simp [HV.out]), HE3.out⟩
    · have hb : (z == z') = false := by simpa using hz
      go_wp2
      go_ret
      exact ⟨ret_b (by simp [HV.out, hz]), HE2.out⟩
  · have hb : (x == x') = false := by simpa using hx
    go_enter Try.func70, Try.ntmps70
    go_wp2
    go_ret
    exact ⟨ret_b (by simp [HV.out, hx]), (((Ext.refl _).alloc _).alloc _)⟩

set_option maxRecDepth 100000 in
set_option maxHeartbeats 4000000 in
theorem eqRuleS_any (A : Option Addr) (n cap : Nat) (ts : List Rl) (A' : Option Addr) (n' cap' : Nat) (us : List Rl) (w : World) (h : QRS 0 w (A, n, cap) ts) (h' : QRS 0 w (A', n', cap') us) :
    Calls Try.prog 71 #[.slice A n cap, .slice A' n' cap'] w fun e w' => e = .returned (.bool (rsEq ts us)) ∧ Ext w w' := by
  have hl : ts.length = n := h.len
  have hl' : us.length = n' := h'.len
  have hn : n ≤ maxLen := h.1
  have hn' : n' ≤ maxLen := h'.1
  unfold maxLen at hn hn'
  by_cases hnn : n = n'
  · subst hnn
    have HL := Lib.hid hl; clear hl
    have HL' := Lib.hid hl'; clear hl'
    go_enter Try.func71, Try.ntmps71
    go_wp2
    go_loopw [5] (fun i wr => ∃ k : Nat, k ≤ n ∧ i = .int .i64 k ∧ Ext w wr ∧ Hid (decide (ts = us) = decide (ts.drop k = us.drop k))) (fun i _ => n - (intOf i).toNat)
    case atStart => exact ⟨0, Nat.zero_le _, rfl, Ext.refl _, rfl⟩
    case round =>
      obtain ⟨k, hk, rfl, hE, hD⟩ := hrel
      by_cases hlt : k < n
      · obtain ⟨b, off, x, A1, n1, p1, v, A2, n2, p2, c, bd, A3, n3, p3, rows, hA, hx, c0, c1, c2, c3, c4, hQ⟩ := (h.ext hE).at_ hlt
        obtain ⟨b', off', x', A1', n1', p1', v', A2', n2', p2', c', bd', A3', n3', p3', rows', hA', hx', d0, d1, d2, d3, d4, hQ'⟩ := (h'.ext hE).at_ hlt
        subst hA; subst hA'
        obtain ⟨D1, D2⟩ := dec_drop1 ts us k (x, v, c, bd, rows) (x', v', c', bd', rows') hx hx' hD.out
        have HD1 := Lib.hid D1
        have HD2 := Lib.hid D2
        have SS := Lib.hid hQ
        have SS' := Lib.hid hQ'
        clear hx hx' hD h h' D1 D2 hQ hQ'
        have e0 : ∀ p : ExtBy wr, p.to.cell? ⟨b, off + k * 5, none⟩ = some (.int .i64 x) := fun p => p.cell c0
        have g0 : ∀ p : ExtBy wr, p.to.cell? ⟨b', off' + k * 5, none⟩ = some (.int .i64 x') := fun p => p.cell d0
        have e1 : ∀ p : ExtBy wr, p.to.cell? ⟨b, off + k * 5 + 1, none⟩ = some (.slice A1 n1 p1) := fun p => p.cell c1
        have g1 : ∀ p : ExtBy wr, p.to.cell? ⟨b', off' + k * 5 + 1, none⟩ = some (.slice A1' n1' p1') := fun p => p.cell d1
        have e2 : ∀ p : ExtBy wr, p.to.cell? ⟨b, off + k * 5 + 2, none⟩ = some (.slice A2 n2 p2) := fun p => p.cell c2
        have g2 : ∀ p : ExtBy wr, p.to.cell? ⟨b', off' + k * 5 + 2, none⟩ = some (.slice A2' n2' p2') := fun p => p.cell d2
        have e3 : ∀ p : ExtBy wr, p.to.cell? ⟨b, off + k * 5 + 3, none⟩ = some (.int .i64 bd) := fun p => p.cell c3
        have g3 : ∀ p : ExtBy wr, p.to.cell? ⟨b', off' + k * 5 + 3, none⟩ = some (.int .i64 bd') := fun p => p.cell d3
        have e4 : ∀ p : ExtBy wr, p.to.cell? ⟨b, off + k * 5 + 4, none⟩ = some (.slice A3 n3 p3) := fun p => p.cell c4
        have g4 : ∀ p : ExtBy wr, p.to.cell? ⟨b', off' + k * 5 + 4, none⟩ = some (.slice A3' n3' p3') := fun p => p.cell d4
        clear c0 c1 c2 c3 c4 d0 d1 d2 d3 d4
        by_cases hcc : (x, v, c, bd, rows) = (x', v', c', bd', rows')
        · have D := Lib.hid (HD1.out hcc)
          have hdec : Hid (rlEq (x, v, c, bd, rows) (x', v', c', bd', rows') = true) := decide_eq_true hcc
          clear HD1 HD2 hcc
          go_wp2_with fail
          refine wp_region_ext_lit (by kernel_rfl) (by kernel_rfl) ?_
          repeat (go_big_quiet_step (first
            | (go_at_call 93; exact ext_call (calls_val (eqRule_any x A1 n1 p1 v A2 n2 p2 c bd A3 n3 p3 rows x' A1' n1' p1' v' A2' n2' p2' c' bd' A3' n3' p3' rows' _ (SS.out.ext (ExtBy.ext _)) (SS'.out.ext (ExtBy.ext _))) (congrArg Value.bool hdec.out)))))
          refine wpQuiet_nil ?_
          intro _ hw'
          obtain ⟨⟨wq, hq⟩, hw''⟩ := hw'
          subst hw''
          have HF := Lib.hid (hE.trans hq)
          clear e0 e1 e2 e3 e4 g0 g1 g2 g3 g4 hq
          go_wp2
          go_roundw
          case rel => exact ⟨k + 1, by omega, by go_num, HF.out, D⟩
          case measure => simp [intOf]; omega
        · have D := Lib.hid (HD2.out hcc)
          have hdec : Hid (rlEq (x, v, c, bd, rows) (x', v', c', bd', rows') = false) := decide_eq_false hcc
          clear HD1 HD2 hcc
          go_wp2_with fail
          refine wp_region_ext_lit (by kernel_rfl) (by kernel_rfl) ?_
          repeat (go_big_quiet_step (first
            | (go_at_call 93; exact ext_call (calls_val (eqRule_any x A1 n1 p1 v A2 n2 p2 c bd A3 n3 p3 rows x' A1' n1' p1' v' A2' n2' p2' c' bd' A3' n3' p3' rows' _ (SS.out.ext (ExtBy.ext _)) (SS'.out.ext (ExtBy.ext _))) (congrArg Value.bool hdec.out)))))
          refine wpQuiet_nil ?_
          intro _ hw'
          obtain ⟨⟨wq, hq⟩, hw''⟩ := hw'
          subst hw''
          have HF := Lib.hid (hE.trans hq)
          clear e0 e1 e2 e3 e4 g0 g1 g2 g3 g4 hq
          go_wp2
          go_ret
          exact ⟨ret_b D.out.symm, HF.out⟩
      · clear h h'
        go_wp2
        go_ret
        obtain rfl : k = n := by omega
        refine ⟨ret_b ?_, hE⟩
        unfold rsEq
        rw [hD.out]
        have a1 := HL.out
        have a2 := HL'.out
        rw [List.drop_of_length_le (by omega), List.drop_of_length_le (by omega)]
        rfl
  · have hb : ((n : Int) == (n' : Int)) = false := by simp; omega
    clear h h'
    go_enter Try.func71, Try.ntmps71
    go_wp2
    go_ret
    have : ts ≠ us := by rintro rfl; omega
    exact ⟨ret_b (decide_eq_false this).symm, Ext.refl _⟩

set_option maxRecDepth 100000 in
set_option maxHeartbeats 4000000 in
theorem eqfR_any (A : Option Addr) (n cap : Nat) (ts : List Rl) (A' : Option Addr) (n' cap' : Nat) (us : List Rl) (w : World) (h : QRS 0 w (A, n, cap) ts) (h' : QRS 0 w (A', n', cap') us) :
    Calls Try.prog 69 #[.slice A n cap, .slice A' n' cap', .func (.func 70) #[] #[]] w fun e w' => e = .returned (.bool (rsEq ts us)) ∧ Ext w w' := by
  have eg : ∀ args w, (callFunc 70 args).run Try.prog w = .ok (.enter 70 args) w := enters_of Try.func70 (by kernel_rfl) rfl
  have hl : ts.length = n := h.len
  have hl' : us.length = n' := h'.len
  have hn : n ≤ maxLen := h.1
  have hn' : n' ≤ maxLen := h'.1
  unfold maxLen at hn hn'
  by_cases hnn : n = n'
  · subst hnn
    have HL := Lib.hid hl; clear hl
    have HL' := Lib.hid hl'; clear hl'
    go_enter Try.func69, Try.ntmps69
    go_wp2_with fail
    go_loopw [17] (fun i wr => ∃ k : Nat, k ≤ n ∧ i = .int .i64 k ∧ Ext w wr ∧ Hid (decide (ts = us) = decide (ts.drop k = us.drop k))) (fun i _ => n - (intOf i).toNat)
    case atStart => exact ⟨0, Nat.zero_le _, rfl, Ext.refl _, rfl⟩
    case round =>
      obtain ⟨k, hk, rfl, hE, hD⟩ := hrel
      by_cases hlt : k < n
      · obtain ⟨b, off, x, A1, n1, p1, v, A2, n2, p2, c, bd, A3, n3, p3, rows, hA, hx, c0, c1, c2, c3, c4, hQ⟩ := (h.ext hE).at_ hlt
        obtain ⟨b', off', x', A1', n1', p1', v', A2', n2', p2', c', bd', A3', n3', p3', rows', hA', hx', d0, d1, d2, d3, d4, hQ'⟩ := (h'.ext hE).at_ hlt
        subst hA; subst hA'
        obtain ⟨D1, D2⟩ := dec_drop1 ts us k (x, v, c, bd, rows) (x', v', c', bd', rows') hx hx' hD.out
        have HD1 := Lib.hid D1
        have HD2 := Lib.hid D2
        have SS := Lib.hid hQ
        have SS' := Lib.hid hQ'
        have hb1 := World.block_lt_of_cell? _ _ c0
        have hb2 := World.block_lt_of_cell? _ _ d0
        clear hx hx' hD h h' D1 D2 hQ hQ'
        by_cases hcc : (x, v, c, bd, rows) = (x', v', c', bd', rows')
        · have D := Lib.hid (HD1.out hcc)
          have hdec : Hid (rlEq (x, v, c, bd, rows) (x', v', c', bd', rows') = true) := decide_eq_true hcc
          clear HD1 HD2 hcc
          go_wp2_with fail
          refine (calls_val (sameRule_any x A1 n1 p1 v A2 n2 p2 c bd A3 n3 p3 rows x' A1' n1' p1' v' A2' n2' p2' c' bd' A3' n3' p3' rows' _ (SS.out.ext (((Ext.refl _).alloc _).alloc _)) (SS'.out.ext (((Ext.refl _).alloc _).alloc _))) (congrArg Value.bool hdec.out)).mono ?_
          rintro e w1 ⟨rfl, hE1⟩
          have HF := Lib.hid (((hE.alloc _).alloc _).trans hE1)
          clear hE1 c0 c1 c2 c3 c4 d0 d1 d2 d3 d4
          go_wp2
          go_roundw
          case rel => exact ⟨k + 1, by omega, by go_num, HF.out, D⟩
          case measure => simp [intOf]; omega
        · have D := Lib.hid (HD2.out hcc)
          have hdec : Hid (rlEq (x, v, c, bd, rows) (x', v', c', bd', rows') = false) := decide_eq_false hcc
          clear HD1 HD2 hcc
          go_wp2_with fail
          refine (calls_val (sameRule_any x A1 n1 p1 v A2 n2 p2 c bd A3 n3 p3 rows x' A1' n1' p1' v' A2' n2' p2' c' bd' A3' n3' p3' rows' _ (SS.out.ext (((Ext.refl _).alloc _).alloc _)) (SS'.out.ext (((Ext.refl _).alloc _).alloc _))) (congrArg Value.bool hdec.out)).mono ?_
          rintro e w1 ⟨rfl, hE1⟩
          have HF := Lib.hid (((hE.alloc _).alloc _).trans hE1)
          clear hE1 c0 c1 c2 c3 c4 d0 d1 d2 d3 d4
          go_wp2
          go_ret
          exact ⟨ret_b D.out.symm, HF.out⟩
      · clear h h'
        go_wp2
        go_ret
        obtain rfl : k = n := by omega
        refine ⟨ret_b ?_, hE⟩
        unfold rsEq
        rw [hD.out]
        have a1 := HL.out
        have a2 := HL'.out
        rw [List.drop_of_length_le (by omega), List.drop_of_length_le (by omega)]
        rfl
  · have hb : ((n : Int) == (n' : Int)) = false := by simp; omega
    clear h h'
    go_enter Try.func69, Try.ntmps69
    go_wp2
    go_ret
    have : ts ≠ us := by rintro rfl; omega
    exact ⟨ret_b (decide_eq_false this).symm, Ext.refl _⟩

set_option maxRecDepth 100000 in
set_option maxHeartbeats 4000000 in
theorem eqModel_any (A : Option Addr) (n cap : Nat) (v : List Int) (B : Option Addr) (m q : Nat) (rs : List Rl) (A' : Option Addr) (n' cap' : Nat) (v' : List Int) (B' : Option Addr) (m' q' : Nat) (rs' : List Rl) (w : World)
    (h1 : QI 0 w (A, n, cap) v) (h2 : QRS 0 w (B, m, q) rs) (h1' : QI 0 w (A', n', cap') v') (h2' : QRS 0 w (B', m', q') rs') :
    Calls Try.prog 32 #[.agg #[.slice A n cap, .slice B m q], .agg #[.slice A' n' cap', .slice B' m' q']] w fun e w' => e = .returned (.bool (moEq (v, rs) (v', rs'))) ∧ Ext w w' := by
  obtain ⟨r1, hr1⟩ : ∃ q, iEq v v' = q := ⟨_, rfl⟩
  obtain ⟨r2, hr2⟩ : ∃ q, rsEq rs rs' = q := ⟨_, rfl⟩
  have HV : Hid (moEq (v, rs) (v', rs') = (r1 && r2)) := by rw [Hid, moEq_and, hr1, hr2]
  have H1 := Lib.hid hr1
  have H2 := Lib.hid hr2
  have Q1 := Lib.hid h1
  have Q2 := Lib.hid h2
  have Q1' := Lib.hid h1'
  have Q2' := Lib.hid h2'
  clear h1 h2 h1' h2' hr1 hr2
  go_enter Try.func32, Try.ntmps32
  go_wp2_with fail
  refine (calls_val (eqIntS_any A n cap v A' n' cap' v' _ Q1.out.1 (Q1.out.ext (((Ext.refl _).alloc _).alloc _)).2.1 Q1'.out.1 (Q1'.out.ext (((Ext.refl _).alloc _).alloc _)).2.1) (congrArg Value.bool H1.out)).mono ?_
  rintro e w1 ⟨rfl, hE1⟩
  obtain ⟨K0, K1⟩ := Blk.of2 hE1
  have HE1 := Lib.hid ((((Ext.refl w).alloc _).alloc _).trans hE1)
  have b1 := K0.cell 1
  have d1 := K1.cell 1
  have l0 := K0.lt
  have l1 := K1.lt
  clear K0 K1 hE1
  cases r1
  · go_wp2
    go_ret
    exact ⟨ret_b (by simp [HV.out]), HE1.out⟩
  go_wp2_with fail
  refine (calls_val (eqRuleS_any B m q rs B' m' q' rs' _ (Q2.out.ext HE1.out) (Q2'.out.ext HE1.out)) (congrArg Value.bool H2.out)).mono ?_
  rintro e w2 ⟨rfl, hE2⟩
  have HE2 := Lib.hid (HE1.out.trans hE2)
  clear b1 d1 l0 l1 hE2
  cases r2
  all_goals
    go_wp2
    go_ret
    exact ⟨ret_b (by simp [HV.out]), HE2.out⟩

set_option maxRecDepth 100000 in
set_option maxHeartbeats 4000000 in
theorem implMS_any (A : Option Addr) (n cap : Nat) (v : List Int) (B : Option Addr) (m q : Nat) (rs : List Rl) (A' : Option Addr) (n' cap' : Nat) (v' : List Int) (B' : Option Addr) (m' q' : Nat) (rs' : List Rl) (w : World)
    (h1 : QI 0 w (A, n, cap) v) (h2 : QRS 0 w (B, m, q) rs) (h1' : QI 0 w (A', n', cap') v') (h2' : QRS 0 w (B', m', q') rs') :
    Calls Try.prog 31 #[.agg #[.slice A n cap, .slice B m q], .agg #[.slice A' n' cap', .slice B' m' q']] w fun e w' => e = .returned (.bool (moEq (v, rs) (v', rs'))) ∧ Ext w w' := by
  obtain ⟨r1, hr1⟩ : ∃ q, iEq v v' = q := ⟨_, rfl⟩
  obtain ⟨r2, hr2⟩ : ∃ q, rsEq rs rs' = q := ⟨_, rfl⟩
  have HV : Hid (moEq (v, rs) (v', rs') = (r1 && r2)) := by rw [Hid, moEq_and, hr1, hr2]
  have H1 := Lib.hid hr1
  have H2 := Lib.hid hr2
  have Q1 := Lib.hid h1
  have Q2 := Lib.hid h2
  have Q1' := Lib.hid h1'
  have Q2' := Lib.hid h2'
  clear h1 h2 h1' h2' hr1 hr2
  go_enter Try.func31, Try.ntmps31
  go_wp2_with fail
  refine (calls_val (slEqI_any A n cap v A' n' cap' v' _ Q1.out.1 (Q1.out.ext (((Ext.refl _).alloc _).alloc _)).2.1 Q1'.out.1 (Q1'.out.ext (((Ext.refl _).alloc _).alloc _)).2.1) (congrArg Value.bool H1.out)).mono ?_
  rintro e w1 ⟨rfl, hE1⟩
  obtain ⟨K0, K1⟩ := Blk.of2 hE1
  have HE1 := Lib.hid ((((Ext.refl w).alloc _).alloc _).trans hE1)
  have b1 := K0.cell 1
  have d1 := K1.cell 1
  have l0 := K0.lt
  have l1 := K1.lt
  clear K0 K1 hE1
  cases r1
  · go_wp2
    go_ret
    exact ⟨ret_b (by simp [HV.out]), HE1.out⟩
  go_wp2_with fail
  refine (calls_val (eqfR_any B m q rs B' m' q' rs' _ (Q2.out.ext HE1.out) (Q2'.out.ext HE1.out)) (congrArg Value.bool H2.out)).mono ?_
  rintro e w2 ⟨rfl, hE2⟩
  have HE2 := Lib.hid (HE1.out.trans hE2)
  clear b1 d1 l0 l1 hE2
  cases r2
  all_goals
    go_wp2
    go_ret
    exact ⟨ret_b (by simp [HV.out]), HE2.out⟩

end Go.Proofs.Ytgoaggojbcdgeaa
