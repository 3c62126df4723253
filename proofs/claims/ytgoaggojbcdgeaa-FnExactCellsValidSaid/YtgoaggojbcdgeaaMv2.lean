/- Valid models: the reference's l6Rule, ModelValid. -/
import Derived.Test.YtgoaggojbcdgeaaMv
namespace Go.Proofs.Ytgoaggojbcdgeaa
open Go.RowKit
set_option linter.unusedVariables false

def RuleOk (nv : Nat) (r : Rl) : Prop := VarsOk nv r.2.1 ∧ (r.1 ≠ 1 → r.2.2.1.length = 0 ∧ r.2.2.2.1 = 0) ∧ (r.1 ≠ 3 → r.2.2.2.2.length = 0) ∧ (r.1 = 1 → LinOk r.2.1.length r.2.2.1 r.2.2.2.1) ∧ (r.1 = 3 → TabOk r.2.1.length r.2.2.2.2) ∧ (r.1 = 4 → r.2.1.length = 2) ∧ (r.1 = 1 ∨ r.1 = 2 ∨ r.1 = 3 ∨ r.1 = 4)

set_option maxRecDepth 100000 in
set_option maxHeartbeats 4000000 in
theorem l6Rule_any (A : Option Addr) (n cap : Nat) (B : Option Addr) (m q : Nat) (x : Int) (A1 : Option Addr) (n1 p1 : Nat) (vs : List Int) (A2 : Option Addr) (n2 p2 : Nat) (cs : List Int) (z : Int) (A3 : Option Addr) (n3 p3 : Nat) (rows : List (List Int)) (w : World)
    (hn : n ≤ maxLen) (h : QR 0 w ((A1, n1, p1), (A2, n2, p2), (A3, n3, p3)) (x, vs, cs, z, rows)) :
    Calls Try.prog 72 #[.agg #[.slice A n cap, .slice B m q], .agg #[.int .i64 x, .slice A1 n1 p1, .slice A2 n2 p2, .int .i64 z, .slice A3 n3 p3]] w (RetPr (RuleOk n (x, vs, cs, z, rows)) w) := by
  have L1 : Hid (vs.length = n1) := h.1.2.1.lenI
  have L2 : Hid (cs.length = n2) := h.2.1.2.1.lenI
  have L3 : Hid (rows.length = n3) := h.2.2.len
  have hn1 : n1 ≤ maxLen := h.1.1
  have hn2 : n2 ≤ maxLen := h.2.1.1
  have hn3 : n3 ≤ maxLen := h.2.2.1
  have HS := Lib.hid h
  clear h
  have hn1' := hn1
  unfold maxLen at hn1' hn2 hn3
  go_enter Try.func72, Try.ntmps72
  go_wp2_with fail
  refine (l6Vars_any A n cap B m q A1 n1 p1 vs _ hn (HS.out.1.ext (((Ext.refl _).alloc _).alloc _))).mono ?_
  rintro e w1 ⟨b1, rfl, hv, hE1⟩
  obtain ⟨K0, K1⟩ := Blk.of2 hE1
  have HE1 := Lib.hid ((((Ext.refl w).alloc _).alloc _).trans hE1)
  have HV := Lib.hid hv
  have c0 := K1.cell 0
  have c1 := K1.cell 1
  have c2 := K1.cell 2
  have c3 := K1.cell 3
  have c4 := K1.cell 4
  have l1 := K1.lt
  clear K0 K1 hE1 hv
  cases b1
  · have hF : Hid (¬ RuleOk n (x, vs, cs, z, rows)) := fun h => by have := HV.out.2 h.1; cases this
    go_wp2
    go_ret
    exact RetPr.no hF.out HE1.out
  have HV2 : Hid (VarsOk n vs) := HV.out.1 rfl
  clear HV
  by_cases hx1 : x = 1
  · subst hx1
    by_cases h3 : n3 = 0
    · subst h3
      go_wp2_with fail
      refine (l6Linear_any 1 A1 n1 p1 A2 n2 p2 z A3 0 p3 cs _ hn1 (HS.out.2.1.ext HE1.out)).mono ?_
      rintro e w2 ⟨b2, rfl, hv, hE2⟩
      have HV := Lib.hid hv
      have HE2 := Lib.hid (HE1.out.trans hE2)
      clear hv hE2 c0 c1 c2 c3 c4 l1
      go_wp2
      go_ret
      refine ⟨b2, rfl, ?_, HE2.out⟩
      rw [HV.out]
      constructor
      · intro h; exact ⟨HV2.out, fun h => absurd rfl h, fun _ => by have := L3.out; simp only; omega, fun _ => by simp only; rw [L1.out]; exact h, fun h => absurd h (by simp), fun h => absurd h (by simp), .inl rfl⟩
      · intro h; have := h.2.2.2.1 rfl; simp only at this; rw [L1.out] at this; exact this
    · skip
      have hb0 : ((n3 : Int) == 0) = false := by simp; omega
      have hb1 : ((n3 : Int) != 0) = true := by simp; omega
      have hF : Hid (¬ RuleOk n (1, vs, cs, z, rows)) := fun h => by have := h.2.2.1 (by simp only; omega); have := L3.out; simp only at *; omega
      go_wp2
      go_ret
      exact RetPr.no hF.out HE1.out
  · skip
    have hb2 : (x == 1) = false := by simp; omega
    have hb3 : (x != 1) = true := by simp; omega
    by_cases h2 : n2 = 0
    · subst h2
      by_cases hz : z = 0
      · subst hz
        by_cases hx3 : x = 3
        · subst hx3
          go_wp2_with fail
          refine (l6Table_any 3 A1 n1 p1 A2 0 p2 0 A3 n3 p3 rows _ hn1 (HS.out.2.2.ext HE1.out)).mono ?_
          rintro e w2 ⟨b2, rfl, hv, hE2⟩
          have HV := Lib.hid hv
          have HE2 := Lib.hid (HE1.out.trans hE2)
          clear hv hE2 c0 c1 c2 c3 c4 l1
          go_wp2
          go_ret
          refine ⟨b2, rfl, ?_, HE2.out⟩
          rw [HV.out]
          constructor
          · intro h; exact ⟨HV2.out, fun _ => ⟨by have := L2.out; simp only; omega, rfl⟩, fun h => absurd rfl h, fun h => absurd h (by simp), fun _ => by simp only; rw [L1.out]; exact h, fun h => absurd h (by simp), .inr (.inr (.inl rfl))⟩
          · intro h; have := h.2.2.2.2.1 rfl; simp only at this; rw [L1.out] at this; exact this
        · skip
          have hb4 : (x == 3) = false := by simp; omega
          have hb5 : (x != 3) = true := by simp; omega
          by_cases h3 : n3 = 0
          · subst h3
            by_cases hx2 : x = 2
            · subst hx2
              have hT : Hid (RuleOk n (2, vs, cs, 0, rows)) := ⟨HV2.out, fun _ => ⟨by have := L2.out; simp only; omega, rfl⟩, fun _ => by have := L3.out; simp only; omega, fun h => absurd h (by simp), fun h => absurd h (by simp), fun h => absurd h (by simp), .inr (.inl rfl)⟩
              go_wp2
              go_ret
              exact RetPr.yes hT.out HE1.out
            have hb6 : (x == 2) = false := by simp; omega
            have hb7 : (x != 2) = true := by simp; omega
            by_cases hx4 : x = 4
            · subst hx4
              have hT : Hid (RuleOk n (4, vs, cs, 0, rows) ↔ n1 = 2) := ⟨fun h => by have := h.2.2.2.2.2.1 rfl; have := L1.out; simp only at *; omega, fun h1 => ⟨HV2.out, fun _ => ⟨by have := L2.out; simp only; omega, rfl⟩, fun _ => by have := L3.out; simp only; omega, fun h => absurd h (by simp), fun h => absurd h (by simp), fun _ => by have := L1.out; simp only; omega, .inr (.inr (.inr rfl))⟩⟩
              go_wp2
              go_ret
              exact ⟨_, rfl, by rw [hT.out]; simp; omega, HE1.out⟩
            have hb8 : (x == 4) = false := by simp; omega
            have hb9 : (x != 4) = true := by simp; omega
            have hF : Hid (¬ RuleOk n (x, vs, cs, 0, rows)) := fun h => by have := h.2.2.2.2.2.2; simp only at *; omega
            go_wp2
            go_ret
            exact RetPr.no hF.out HE1.out
          · skip
            have hb10 : ((n3 : Int) == 0) = false := by simp; omega
            have hb11 : ((n3 : Int) != 0) = true := by simp; omega
            have hF : Hid (¬ RuleOk n (x, vs, cs, 0, rows)) := fun h => by have := h.2.2.1 (by simp only; omega); have := L3.out; simp only at *; omega
            go_wp2
            go_ret
            exact RetPr.no hF.out HE1.out
      · skip
        have hb12 : (z == 0) = false := by simp; omega
        have hb13 : (z != 0) = true := by simp; omega
        have hF : Hid (¬ RuleOk n (x, vs, cs, z, rows)) := fun h => by exact hz (h.2.1 hx1).2
        go_wp2
        go_ret
        exact RetPr.no hF.out HE1.out
    · skip
      have hb14 : ((n2 : Int) == 0) = false := by simp; omega
      have hb15 : ((n2 : Int) != 0) = true := by simp; omega
      have hF : Hid (¬ RuleOk n (x, vs, cs, z, rows)) := fun h => by have := (h.2.1 hx1).1; have := L2.out; simp only at *; omega
      go_wp2
      go_ret
      exact RetPr.no hF.out HE1.out

theorem calls_pr_yes {P : Program} {f : FuncId} {args : Array Value} {w : World} {Q : Prop} (h : Calls P f args w (RetPr Q w)) (hq : Q) : Calls P f args w fun e w' => e = .returned (.bool true) ∧ Ext w w' :=
  h.mono fun e w' ⟨b, he, hb, hE⟩ => ⟨by rw [he, hb.2 hq], hE⟩
theorem calls_pr_no {P : Program} {f : FuncId} {args : Array Value} {w : World} {Q : Prop} (h : Calls P f args w (RetPr Q w)) (hq : ¬ Q) : Calls P f args w fun e w' => e = .returned (.bool false) ∧ Ext w w' :=
  h.mono fun e w' ⟨b, he, hb, hE⟩ => ⟨by cases b with | false => exact he | true => exact absurd (hb.1 rfl) hq, hE⟩

def szSum : List Int → Int
  | [] => 0
  | s :: ss => (s + 1) + szSum ss
theorem szSum_snoc : ∀ (l : List Int) (x : Int), szSum (l ++ [x]) = szSum l + (x + 1)
  | [], x => by simp [szSum]
  | s :: ss, x => by simp only [List.cons_append, szSum, szSum_snoc ss x]; omega
def ModelOk (v : List Int) (rs : List Rl) : Prop := 1 ≤ v.length ∧ v.length ≤ 5 ∧ (∀ (i : Nat) (s : Int), v[i]? = some s → 0 ≤ s ∧ s ≤ 3) ∧ szSum v ≤ 12 ∧ rs.length ≤ 8 ∧ ∀ (i : Nat) (r : Rl), rs[i]? = some r → RuleOk v.length r

set_option maxRecDepth 100000 in
set_option maxHeartbeats 4000000 in
theorem specMV_any (A : Option Addr) (n cap : Nat) (v : List Int) (B : Option Addr) (m q : Nat) (rs : List Rl) (w : World) (h1 : QI 0 w (A, n, cap) v) (h2 : QRS 0 w (B, m, q) rs) :
    Calls Try.prog 33 #[.agg #[.slice A n cap, .slice B m q]] w (RetPr (ModelOk v rs) w) := by
  have L1 : Hid (v.length = n) := h1.2.1.lenI
  have L2 : Hid (rs.length = m) := h2.len
  have hn : n ≤ maxLen := h1.1
  have hm : m ≤ maxLen := h2.1
  have HN := Lib.hid hn
  have S1 := Lib.hid h1
  have S2 := Lib.hid h2
  clear h1 h2
  unfold maxLen at hn hm
  go_enter Try.func33, Try.ntmps33
  go_wp2_with fail
  go_loopw [3, 4] (fun s i wr => ∃ (k : Nat) (y : Int), k ≤ n ∧ k ≤ 5 ∧ s = .int .i64 y ∧ i = .int .i64 k ∧ Ext w wr ∧ Hid (Blk wr w.heap.size 55 #[.slice A n cap, .slice B m q]) ∧ 0 ≤ y ∧ y ≤ 4 * k ∧ Hid (y = szSum (v.take k)) ∧ Hid (∀ (i : Nat) (s : Int), i < k → v[i]? = some s → 0 ≤ s ∧ s ≤ 3)) (fun _ i _ => n - (intOf i).toNat)
  case atStart => exact ⟨0, 0, Nat.zero_le _, by omega, rfl, rfl, (Ext.refl _).alloc _, Blk.new _ _ _, by omega, by omega, rfl, fun i s hi _ => absurd hi (by omega)⟩
  case round =>
    obtain ⟨k, y, hk, hk5, rfl, rfl, hE, hB, hy0, hy1, hY, hR⟩ := hrel
    have b0 := hB.out.cell 0
    by_cases hlt : k < n ∧ k < 5
    · obtain ⟨hlt, hlt5⟩ := hlt
      obtain ⟨b, off, c, rfl, hx, c1⟩ := (S1.out.2.1.ext hE).int hlt
      have HX := Lib.hid hx
      clear hx
      by_cases hz1 : c < 0
      · have hF : Hid (¬ ModelOk v rs) := fun h => by have := h.2.2.1 k c HX.out; omega
        go_wp2
        go_ret
        exact RetPr.no hF.out hE
      by_cases hz2 : 3 < c
      · have hF : Hid (¬ ModelOk v rs) := fun h => by have := h.2.2.1 k c HX.out; omega
        go_wp2
        go_ret
        exact RetPr.no hF.out hE
      have hR2 : Hid (∀ (i : Nat) (s : Int), i < k + 1 → v[i]? = some s → 0 ≤ s ∧ s ≤ 3) := fun i s hi hv => by
        rcases Nat.lt_or_ge i k with h | h
        · exact hR.out i s h hv
        · obtain rfl : i = k := by omega
          have := HX.out; rw [hv] at this; injection this with this; subst this; omega
      have hY2 : Hid (y + c + 1 = szSum (v.take (k + 1))) := by rw [Hid, take_of_get _ _ _ HX.out, szSum_snoc, hY.out]; omega
      go_wp2
      go_roundw
      case rel => exact ⟨k + 1, y + c + 1, by omega, by omega, by go_num, by go_num, hE, hB, by omega, by omega, hY2, hR2⟩
      case measure => simp [intOf]; omega
    · have b1 := hB.out.cell 1
      by_cases hn1 : n < 1
      · have hF : Hid (¬ ModelOk v rs) := fun h => by have := h.1; have := L1.out; omega
        by_cases hkn : k < n
        · omega
        go_wp2
        go_ret
        exact RetPr.no hF.out hE
      by_cases hn5 : 5 < n
      · have hF : Hid (¬ ModelOk v rs) := fun h => by have := h.2.1; have := L1.out; omega
        obtain rfl : k = 5 := by omega
        go_wp2
        go_ret
        exact RetPr.no hF.out hE
      obtain rfl : k = n := by omega
      have hYv : Hid (y = szSum v) := by rw [Hid, hY.out, List.take_of_length_le (by rw [L1.out]; omega)]
      have hall : Hid (∀ (i : Nat) (s : Int), v[i]? = some s → 0 ≤ s ∧ s ≤ 3) := fun i s hv => hR.out i s (by have := (List.getElem?_eq_some_iff.1 hv).1; have := L1.out; omega) hv
      clear hY hR
      by_cases hs : 12 < y
      · have hF : Hid (¬ ModelOk v rs) := fun h => by have := h.2.2.2.1; have := hYv.out; omega
        go_wp2
        go_ret
        exact RetPr.no hF.out hE
      by_cases hr8 : 8 < m
      · have hF : Hid (¬ ModelOk v rs) := fun h => by have := h.2.2.2.2.1; have := L2.out; omega
        go_wp2
        go_ret
        exact RetPr.no hF.out hE
      go_wp2
      clear b0 b1
      obtain ⟨w5, rfl⟩ : ∃ x, x = wr := ⟨wr, rfl⟩
      go_loopw [5] (fun i wr => ∃ j : Nat, j ≤ m ∧ i = .int .i64 j ∧ Ext w5 wr ∧ Hid (∀ (i : Nat) (r : Rl), i < j → rs[i]? = some r → RuleOk k r)) (fun i _ => m - (intOf i).toNat)
      case atStart => exact ⟨0, Nat.zero_le _, rfl, Ext.refl _, fun i r hi _ => absurd hi (by omega)⟩
      case round =>
        obtain ⟨j, hj, rfl, hE2, hD⟩ := hrel
        have HB2 := Lib.hid (hB.out.ext hE2)
        have a1 : wr.cell? ⟨w.heap.size, 1, none⟩ = some (.slice B m q) := HB2.out.cell 1
        by_cases hjm : j < m
        · have a0 : wr.cell? ⟨w.heap.size, 0, none⟩ = some (.slice A k cap) := HB2.out.cell 0
          obtain ⟨b, off, x, A1, n1, p1, vs, A2, n2, p2, cs, z, A3, n3, p3, rows, rfl, hx, c0, c1, c2, c3, c4, hq⟩ := (S2.out.ext (hE.trans hE2)).at_ hjm
          have HX := Lib.hid hx
          have HQ := Lib.hid hq
          clear hx hq
          have e0 : ∀ p : ExtBy wr, p.to.cell? ⟨b, off + j * 5, none⟩ = some (.int .i64 x) := fun p => p.cell c0
          have e1 : ∀ p : ExtBy wr, p.to.cell? ⟨b, off + j * 5 + 1, none⟩ = some (.slice A1 n1 p1) := fun p => p.cell c1
          have e2 : ∀ p : ExtBy wr, p.to.cell? ⟨b, off + j * 5 + 2, none⟩ = some (.slice A2 n2 p2) := fun p => p.cell c2
          have e3 : ∀ p : ExtBy wr, p.to.cell? ⟨b, off + j * 5 + 3, none⟩ = some (.int .i64 z) := fun p => p.cell c3
          have e4 : ∀ p : ExtBy wr, p.to.cell? ⟨b, off + j * 5 + 4, none⟩ = some (.slice A3 n3 p3) := fun p => p.cell c4
          have g0 : ∀ p : ExtBy wr, p.to.cell? ⟨w.heap.size, 0, none⟩ = some (.slice A k cap) := fun p => p.cell a0
          have g1 : ∀ p : ExtBy wr, p.to.cell? ⟨w.heap.size, 1, none⟩ = some (.slice (some ⟨b, off, none⟩) m q) := fun p => p.cell a1
          clear c0 c1 c2 c3 c4 a0
          by_cases hP : RuleOk k (x, vs, cs, z, rows)
          · have HP := Lib.hid hP
            have hD2 : Hid (∀ (i : Nat) (r : Rl), i < j + 1 → rs[i]? = some r → RuleOk k r) := fun i r hi hv => by
              rcases Nat.lt_or_ge i j with h | h
              · exact hD.out i r h hv
              · obtain rfl : i = j := by omega
                have := HX.out; rw [hv] at this; injection this with this; subst this; exact HP.out
            clear hP
            go_wp2_with fail
            refine wp_region_ext_lit (by kernel_rfl) (by kernel_rfl) ?_
            repeat (go_big_quiet_step (first
              | (go_at_call 72; exact ext_call (calls_pr_yes (l6Rule_any A k cap (some ⟨b, off, none⟩) m q x A1 n1 p1 vs A2 n2 p2 cs z A3 n3 p3 rows _ HN.out (HQ.out.ext (ExtBy.ext _))) HP.out))))
            refine wpQuiet_nil ?_
            intro _ hw'
            obtain ⟨⟨wq, hq⟩, hw''⟩ := hw'
            subst hw''
            have HF := Lib.hid (hE2.trans hq)
            clear e0 e1 e2 e3 e4 g0 g1 hq a1
            go_wp2
            go_roundw
            case rel => exact ⟨j + 1, by omega, by go_num, HF.out, hD2⟩
            case measure => simp [intOf]; omega
          · have HP := Lib.hid hP
            have hF : Hid (¬ ModelOk v rs) := fun h => HP.out (by have := h.2.2.2.2.2 j _ HX.out; rw [L1.out] at this; exact this)
            clear hP
            go_wp2_with fail
            refine wp_region_ext_lit (by kernel_rfl) (by kernel_rfl) ?_
            repeat (go_big_quiet_step (first
              | (go_at_call 72; exact ext_call (calls_pr_no (l6Rule_any A k cap (some ⟨b, off, none⟩) m q x A1 n1 p1 vs A2 n2 p2 cs z A3 n3 p3 rows _ HN.out (HQ.out.ext (ExtBy.ext _))) HP.out))))
            refine wpQuiet_nil ?_
            intro _ hw'
            obtain ⟨⟨wq, hq⟩, hw''⟩ := hw'
            subst hw''
            have HF := Lib.hid (hE2.trans hq)
            clear e0 e1 e2 e3 e4 g0 g1 hq a1
            go_wp2
            go_ret
            exact RetPr.no hF.out (hE.trans HF.out)
        · obtain rfl : j = m := by omega
          have hT : Hid (ModelOk v rs) := by
            have l1 := L1.out
            have l2 := L2.out
            refine ⟨by omega, by omega, hall.out, by have := hYv.out; omega, by omega, fun i r hv => ?_⟩
            rw [l1]
            exact hD.out i r (by have := (List.getElem?_eq_some_iff.1 hv).1; omega) hv
          go_wp2
          go_ret
          exact RetPr.yes hT.out (hE.trans hE2)
end Go.Proofs.Ytgoaggojbcdgeaa
