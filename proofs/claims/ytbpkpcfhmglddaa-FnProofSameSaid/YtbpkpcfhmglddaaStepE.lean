/- Comparisons of steps: eqStep, eqStepS, ProofSame, the program's and the reference's. -/
import Derived.Test.YtbpkpcfhmglddaaStep
import Derived.Test.YtbpkpcfhmglddaaSameC
import Derived.Test.YtbpkpcfhmglddaaMemD
import Derived.Shelf.Abstract
namespace Go.Proofs.Ytbpkpcfhmglddaa
open Go.RowKit Go.Shelf

def stEq (s s' : St) : Bool := decide (s = s')
theorem stEq_1 {x y z x' y' z' : Int} {ts ts' : List Tm} {bd bd' : Int} (h : x ≠ x') : stEq (x, y, z, ts, bd) (x', y', z', ts', bd') = false := decide_eq_false (by intro e; injection e with e _; exact h e)
theorem stEq_2 {x y z x' y' z' : Int} {ts ts' : List Tm} {bd bd' : Int} (h : y ≠ y') : stEq (x, y, z, ts, bd) (x', y', z', ts', bd') = false := decide_eq_false (by intro e; injection e with _ e; injection e with e _; exact h e)
theorem stEq_3 {x y z x' y' z' : Int} {ts ts' : List Tm} {bd bd' : Int} (h : z ≠ z') : stEq (x, y, z, ts, bd) (x', y', z', ts', bd') = false := decide_eq_false (by intro e; injection e with _ e; injection e with _ e; injection e with e _; exact h e)
theorem stEq_4 {x y z : Int} {ts ts' : List Tm} {bd bd' : Int} : stEq (x, y, z, ts, bd) (x, y, z, ts', bd') = cEq ts ts' bd bd' := by
  unfold stEq cEq; rw [decide_eq_decide]; simp


set_option maxRecDepth 100000 in
set_option maxHeartbeats 2000000 in
theorem psClo_any (x y z : Int) (A : Option Addr) (n cap : Nat) (ts : List Tm) (bd : Int) (x' y' z' : Int) (A' : Option Addr) (n' cap' : Nat) (ts' : List Tm) (bd' : Int) (w : World) (hn : n ≤ maxLen) (h : Seg w 2 A n (encT ts)) (hn' : n' ≤ maxLen) (h' : Seg w 2 A' n' (encT ts')) :
    Calls Try.prog 42 #[.agg #[.int .i64 x, .int .i64 y, .int .i64 z, .slice A n cap, .int .i64 bd], .agg #[.int .i64 x', .int .i64 y', .int .i64 z', .slice A' n' cap', .int .i64 bd']] w fun e w' => e = .returned (.bool (stEq (x, y, z, ts, bd) (x', y', z', ts', bd'))) ∧ Ext w w' := by
  by_cases h1 : x = x'
  · subst h1
    by_cases h2 : y = y'
    · subst h2
      by_cases h3 : z = z'
      · subst h3
        rw [stEq_4]
        obtain ⟨q, hq⟩ : ∃ q, cEq ts ts' bd bd' = q := ⟨_, rfl⟩
        have HQ := Lib.hid hq
        rw [hq]
        clear hq
        go_enter Try.func42, Try.ntmps42
        go_wp2_with fail
        refine (calls_val (implCS2 A n cap ts bd A' n' cap' ts' bd' _ hn ((h.alloc _).alloc _) hn' ((h'.alloc _).alloc _)) (congrArg Value.bool HQ.out)).mono ?_
        rintro e w1 ⟨rfl, hE1⟩
        go_wp2
        go_ret
        exact ⟨rfl, (((Ext.refl _).alloc _).alloc _).trans hE1⟩
      · have hv := stEq_3 (x := x) (y := y) (x' := x) (y' := y) (ts := ts) (ts' := ts') (bd := bd) (bd' := bd') h3
        have hb : (z == z') = false := by simpa using h3
        go_enter Try.func42, Try.ntmps42
        go_wp2
        go_ret
        exact ⟨ret_b hv.symm, ((Ext.refl _).alloc _).alloc _⟩
    · have hv := stEq_2 (x := x) (z := z) (x' := x) (z' := z') (ts := ts) (ts' := ts') (bd := bd) (bd' := bd') h2
      have hb : (y == y') = false := by simpa using h2
      go_enter Try.func42, Try.ntmps42
      go_wp2
      go_ret
      exact ⟨ret_b hv.symm, ((Ext.refl _).alloc _).alloc _⟩
  · have hv := stEq_1 (y := y) (z := z) (y' := y') (z' := z') (ts := ts) (ts' := ts') (bd := bd) (bd' := bd') h1
    have hb : (x == x') = false := by simpa using h1
    go_enter Try.func42, Try.ntmps42
    go_wp2
    go_ret
    exact ⟨ret_b hv.symm, ((Ext.refl _).alloc _).alloc _⟩


set_option maxRecDepth 100000 in
set_option maxHeartbeats 4000000 in
theorem eqfP_any (A : Option Addr) (n cap : Nat) (ts : List St) (A' : Option Addr) (n' cap' : Nat) (us : List St) (w : World) (hn : n ≤ maxLen) (h : SegP w A n ts) (hn' : n' ≤ maxLen) (h' : SegP w A' n' us) :
    Calls Try.prog 41 #[.slice A n cap, .slice A' n' cap', .func (.func 42) #[] #[]] w fun e w' => e = .returned (.bool (spEq ts us)) ∧ Ext w w' := by
  have eg : ∀ args w, (callFunc 42 args).run Try.prog w = .ok (.enter 42 args) w := enters_of Try.func42 (by kernel_rfl) rfl
  have hl := h.len
  have hl' := h'.len
  unfold maxLen at hn hn'
  by_cases hnn : n = n'
  · subst hnn
    have HL := Lib.hid hl; clear hl
    have HL' := Lib.hid hl'; clear hl'
    go_enter Try.func41, Try.ntmps41
    go_wp2_with fail
    go_loopw [17] (fun i wr => ∃ k : Nat, k ≤ n ∧ i = .int .i64 k ∧ Ext w wr ∧ Hid (decide (ts = us) = decide (ts.drop k = us.drop k))) (fun i _ => n - (intOf i).toNat)
    case atStart => exact ⟨0, Nat.zero_le _, rfl, Ext.refl _, rfl⟩
    case round =>
      obtain ⟨k, hk, rfl, hE, hD⟩ := hrel
      by_cases hlt : k < n
      · obtain ⟨b, off, x1, x2, x3, B, m, q, xs, bd, hA, hx, c1, c2, c3, c4, c5, hm, hS⟩ := (h.ext hE).at_ hlt
        obtain ⟨b', off', y1, y2, y3, B', m', q', xs', bd', hA', hx', d1, d2, d3, d4, d5, hm', hS'⟩ := (h'.ext hE).at_ hlt
        subst hA; subst hA'
        obtain ⟨D1, D2⟩ := dec_drop ts us k (x1, x2, x3, xs, bd) (y1, y2, y3, xs', bd') hx hx' hD.out
        have HD1 := Lib.hid D1
        have HD2 := Lib.hid D2
        have SS := Lib.hid hS
        have SS' := Lib.hid hS'
        have MM := Lib.hid hm
        have MM' := Lib.hid hm'
        have hb1 := World.block_lt_of_cell? _ _ c1
        have hb2 := World.block_lt_of_cell? _ _ d1
        clear hx hx' hD h h' D1 D2 hS hS' hm hm'
        by_cases hcc : (x1, x2, x3, xs, bd) = (y1, y2, y3, xs', bd')
        · have D := Lib.hid (HD1.out hcc)
          have hdec : Hid (stEq (x1, x2, x3, xs, bd) (y1, y2, y3, xs', bd') = true) := decide_eq_true hcc
          clear HD1 HD2 hcc
          go_wp2_with fail
          refine (calls_val (psClo_any x1 x2 x3 B m q xs bd y1 y2 y3 B' m' q' xs' bd' _ MM.out ((SS.out.alloc _).alloc _) MM'.out ((SS'.out.alloc _).alloc _)) (congrArg Value.bool hdec.out)).mono ?_
          rintro e w1 ⟨rfl, hE1⟩
          have HF := Lib.hid (((hE.alloc _).alloc _).trans hE1)
          clear hE1 c1 c2 c3 c4 c5 d1 d2 d3 d4 d5
          go_wp2
          go_roundw
          case rel => exact ⟨k + 1, by omega, by go_num, HF.out, D⟩
          case measure => simp [intOf]; omega
        · have D := Lib.hid (HD2.out hcc)
          have hdec : Hid (stEq (x1, x2, x3, xs, bd) (y1, y2, y3, xs', bd') = false) := decide_eq_false hcc
          clear HD1 HD2 hcc
          go_wp2_with fail
          refine (calls_val (psClo_any x1 x2 x3 B m q xs bd y1 y2 y3 B' m' q' xs' bd' _ MM.out ((SS.out.alloc _).alloc _) MM'.out ((SS'.out.alloc _).alloc _)) (congrArg Value.bool hdec.out)).mono ?_
          rintro e w1 ⟨rfl, hE1⟩
          have HF := Lib.hid (((hE.alloc _).alloc _).trans hE1)
          clear hE1 c1 c2 c3 c4 c5 d1 d2 d3 d4 d5
          go_wp2
          go_ret
          exact ⟨ret_b D.out.symm, HF.out⟩
      · clear h h'
        go_wp2
        go_ret
        obtain rfl : k = n := by omega
        refine ⟨ret_b ?_, hE⟩
        unfold spEq
        rw [hD.out]
        have a1 := HL.out
        have a2 := HL'.out
        rw [List.drop_of_length_le (by omega), List.drop_of_length_le (by omega)]
        rfl
  · have hb : ((n : Int) == (n' : Int)) = false := by simp; omega
    clear h h'
    go_enter Try.func41, Try.ntmps41
    go_wp2
    go_ret
    have : ts ≠ us := by rintro rfl; omega
    exact ⟨ret_b (decide_eq_false this).symm, Ext.refl _⟩

set_option maxHeartbeats 1000000 in
theorem implPS_any (A : Option Addr) (n cap : Nat) (ts : List St) (A' : Option Addr) (n' cap' : Nat) (us : List St) (w : World) (hn : n ≤ maxLen) (h : SegP w A n ts) (hn' : n' ≤ maxLen) (h' : SegP w A' n' us) :
    Calls Try.prog 19 #[.slice A n cap, .slice A' n' cap'] w fun e w' => e = .returned (.bool (spEq ts us)) ∧ Ext w w' := by
  have HC := Lib.hid (eqfP_any A n cap ts A' n' cap' us w hn h hn' h')
  clear h h'
  obtain ⟨q, hq⟩ : ∃ q, spEq ts us = q := ⟨_, rfl⟩
  rw [hq] at HC ⊢
  clear hq
  go_enter Try.func19, Try.ntmps19
  go_wp2_with fail
  refine HC.out.mono ?_
  rintro e w1 ⟨rfl, hE1⟩
  go_wp2
  go_ret
  exact ⟨rfl, hE1⟩

set_option maxRecDepth 100000 in
set_option maxHeartbeats 4000000 in
theorem specPS_any (A : Option Addr) (n cap : Nat) (ts : List St) (A' : Option Addr) (n' cap' : Nat) (us : List St) (w : World) (hn : n ≤ maxLen) (h : SegP w A n ts) (hn' : n' ≤ maxLen) (h' : SegP w A' n' us) :
    Calls Try.prog 20 #[.slice A n cap, .slice A' n' cap'] w fun e w' => e = .returned (.bool (spEq ts us)) ∧ Ext w w' := by
  have hl := h.len
  have hl' := h'.len
  unfold maxLen at hn hn'
  by_cases hnn : n = n'
  · subst hnn
    have HL := Lib.hid hl; clear hl
    have HL' := Lib.hid hl'; clear hl'
    go_enter Try.func20, Try.ntmps20
    go_wp2
    go_loopw [5] (fun i wr => ∃ k : Nat, k ≤ n ∧ i = .int .i64 k ∧ Ext w wr ∧ Hid (decide (ts = us) = decide (ts.drop k = us.drop k))) (fun i _ => n - (intOf i).toNat)
    case atStart => exact ⟨0, Nat.zero_le _, rfl, Ext.refl _, rfl⟩
    case round =>
      obtain ⟨k, hk, rfl, hE, hD⟩ := hrel
      by_cases hlt : k < n
      · obtain ⟨b, off, x1, x2, x3, B, m, q, xs, bd, hA, hx, c1, c2, c3, c4, c5, hm, hS⟩ := (h.ext hE).at_ hlt
        obtain ⟨b', off', y1, y2, y3, B', m', q', xs', bd', hA', hx', d1, d2, d3, d4, d5, hm', hS'⟩ := (h'.ext hE).at_ hlt
        subst hA; subst hA'
        obtain ⟨D1, D2⟩ := dec_drop ts us k (x1, x2, x3, xs, bd) (y1, y2, y3, xs', bd') hx hx' hD.out
        have HD1 := Lib.hid D1
        have HD2 := Lib.hid D2
        have SS := Lib.hid hS
        have SS' := Lib.hid hS'
        have MM := Lib.hid hm
        have MM' := Lib.hid hm'
        clear hx hx' hD h h' D1 D2 hS hS' hm hm'
        have e0 : ∀ p : ExtBy wr, p.to.cell? ⟨b, off + k * 5, none⟩ = some (.int .i64 x1) := fun p => p.cell c1
        have e1 : ∀ p : ExtBy wr, p.to.cell? ⟨b, off + k * 5 + 1, none⟩ = some (.int .i64 x2) := fun p => p.cell c2
        have e2 : ∀ p : ExtBy wr, p.to.cell? ⟨b, off + k * 5 + 2, none⟩ = some (.int .i64 x3) := fun p => p.cell c3
        have e3 : ∀ p : ExtBy wr, p.to.cell? ⟨b, off + k * 5 + 3, none⟩ = some (.slice B m q) := fun p => p.cell c4
        have e4 : ∀ p : ExtBy wr, p.to.cell? ⟨b, off + k * 5 + 4, none⟩ = some (.int .i64 bd) := fun p => p.cell c5
        have g0 : ∀ p : ExtBy wr, p.to.cell? ⟨b', off' + k * 5, none⟩ = some (.int .i64 y1) := fun p => p.cell d1
        have g1 : ∀ p : ExtBy wr, p.to.cell? ⟨b', off' + k * 5 + 1, none⟩ = some (.int .i64 y2) := fun p => p.cell d2
        have g2 : ∀ p : ExtBy wr, p.to.cell? ⟨b', off' + k * 5 + 2, none⟩ = some (.int .i64 y3) := fun p => p.cell d3
        have g3 : ∀ p : ExtBy wr, p.to.cell? ⟨b', off' + k * 5 + 3, none⟩ = some (.slice B' m' q') := fun p => p.cell d4
        have g4 : ∀ p : ExtBy wr, p.to.cell? ⟨b', off' + k * 5 + 4, none⟩ = some (.int .i64 bd') := fun p => p.cell d5
        clear c1 c2 c3 c4 c5 d1 d2 d3 d4 d5
        by_cases h1 : x1 ≠ y1
        · have hb : (x1 != y1) = true := by simpa using h1
          have D := Lib.hid (HD2.out (by intro e; exact h1 (by simp at e; first | exact e.1 | exact e.2.1 | exact e.2.2.1)))
          have hdec : Hid (cEq xs xs' bd bd' = cEq xs xs' bd bd') := rfl
          clear HD1 HD2
          go_wp2_with fail
          refine wp_region_ext_lit (by kernel_rfl) (by kernel_rfl) ?_
          repeat (go_big_quiet_step (first
            | (go_at_call 43; exact ext_call (calls_val (specCS2 B m q xs bd B' m' q' xs' bd' _ MM.out (SS.out.ext (ExtBy.ext _)) MM'.out (SS'.out.ext (ExtBy.ext _))) (congrArg Value.bool hdec.out)))))
          refine wpQuiet_nil ?_
          intro _ hw'
          obtain ⟨⟨wq, hq⟩, hw''⟩ := hw'
          subst hw''
          clear e0 e1 e2 e3 e4 g0 g1 g2 g3 g4
          go_wp2
          go_ret
          exact ⟨ret_b D.out.symm, hE.trans hq⟩
        obtain rfl : x1 = y1 := by simpa using h1
        by_cases h2 : x2 ≠ y2
        · have hb : (x2 != y2) = true := by simpa using h2
          have D := Lib.hid (HD2.out (by intro e; exact h2 (by simp at e; first | exact e.1 | exact e.2.1 | exact e.2.2.1)))
          have hdec : Hid (cEq xs xs' bd bd' = cEq xs xs' bd bd') := rfl
          clear HD1 HD2
          go_wp2_with fail
          refine wp_region_ext_lit (by kernel_rfl) (by kernel_rfl) ?_
          repeat (go_big_quiet_step (first
            | (go_at_call 43; exact ext_call (calls_val (specCS2 B m q xs bd B' m' q' xs' bd' _ MM.out (SS.out.ext (ExtBy.ext _)) MM'.out (SS'.out.ext (ExtBy.ext _))) (congrArg Value.bool hdec.out)))))
          refine wpQuiet_nil ?_
          intro _ hw'
          obtain ⟨⟨wq, hq⟩, hw''⟩ := hw'
          subst hw''
          clear e0 e1 e2 e3 e4 g0 g1 g2 g3 g4
          go_wp2
          go_ret
          exact ⟨ret_b D.out.symm, hE.trans hq⟩
        obtain rfl : x2 = y2 := by simpa using h2
        by_cases h3 : x3 ≠ y3
        · have hb : (x3 != y3) = true := by simpa using h3
          have D := Lib.hid (HD2.out (by intro e; exact h3 (by simp at e; first | exact e.1 | exact e.2.1 | exact e.2.2.1)))
          have hdec : Hid (cEq xs xs' bd bd' = cEq xs xs' bd bd') := rfl
          clear HD1 HD2
          go_wp2_with fail
          refine wp_region_ext_lit (by kernel_rfl) (by kernel_rfl) ?_
          repeat (go_big_quiet_step (first
            | (go_at_call 43; exact ext_call (calls_val (specCS2 B m q xs bd B' m' q' xs' bd' _ MM.out (SS.out.ext (ExtBy.ext _)) MM'.out (SS'.out.ext (ExtBy.ext _))) (congrArg Value.bool hdec.out)))))
          refine wpQuiet_nil ?_
          intro _ hw'
          obtain ⟨⟨wq, hq⟩, hw''⟩ := hw'
          subst hw''
          clear e0 e1 e2 e3 e4 g0 g1 g2 g3 g4
          go_wp2
          go_ret
          exact ⟨ret_b D.out.symm, hE.trans hq⟩
        obtain rfl : x3 = y3 := by simpa using h3
        by_cases hcc : cEq xs xs' bd bd' = true
        · have D := Lib.hid (HD1.out (by unfold cEq at hcc; rw [decide_eq_true_eq] at hcc; rw [hcc.1, hcc.2]))
          have hdec := Lib.hid hcc
          clear HD1 HD2 hcc
          go_wp2_with fail
          refine wp_region_ext_lit (by kernel_rfl) (by kernel_rfl) ?_
          repeat (go_big_quiet_step (first
            | (go_at_call 43; exact ext_call (calls_val (specCS2 B m q xs bd B' m' q' xs' bd' _ MM.out (SS.out.ext (ExtBy.ext _)) MM'.out (SS'.out.ext (ExtBy.ext _))) (congrArg Value.bool hdec.out)))))
          refine wpQuiet_nil ?_
          intro _ hw'
          obtain ⟨⟨wq, hq⟩, hw''⟩ := hw'
          subst hw''
          clear e0 e1 e2 e3 e4 g0 g1 g2 g3 g4
          go_wp2
          go_roundw
          case rel => exact ⟨k + 1, by omega, by go_num, hE.trans hq, D⟩
          case measure => simp [intOf]; omega
        · have D := Lib.hid (HD2.out (by intro e; exact hcc (by simp at e; unfold cEq; rw [decide_eq_true_eq]; exact e)))
          have hdec := Lib.hid (show cEq xs xs' bd bd' = false by simpa using hcc)
          clear HD1 HD2 hcc
          go_wp2_with fail
          refine wp_region_ext_lit (by kernel_rfl) (by kernel_rfl) ?_
          repeat (go_big_quiet_step (first
            | (go_at_call 43; exact ext_call (calls_val (specCS2 B m q xs bd B' m' q' xs' bd' _ MM.out (SS.out.ext (ExtBy.ext _)) MM'.out (SS'.out.ext (ExtBy.ext _))) (congrArg Value.bool hdec.out)))))
          refine wpQuiet_nil ?_
          intro _ hw'
          obtain ⟨⟨wq, hq⟩, hw''⟩ := hw'
          subst hw''
          clear e0 e1 e2 e3 e4 g0 g1 g2 g3 g4
          go_wp2
          go_ret
          exact ⟨ret_b D.out.symm, hE.trans hq⟩
      · clear h h'
        go_wp2
        go_ret
        obtain rfl : k = n := by omega
        refine ⟨ret_b ?_, hE⟩
        unfold spEq
        rw [hD.out]
        have a1 := HL.out
        have a2 := HL'.out
        rw [List.drop_of_length_le (by omega), List.drop_of_length_le (by omega)]
        rfl
  · have hb : ((n : Int) == (n' : Int)) = false := by simp; omega
    clear h h'
    go_enter Try.func20, Try.ntmps20
    go_wp2
    go_ret
    have : ts ≠ us := by rintro rfl; omega
    exact ⟨ret_b (decide_eq_false this).symm, Ext.refl _⟩
end Go.Proofs.Ytbpkpcfhmglddaa
