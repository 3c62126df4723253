/- Valid models: the program's ModelValid. -/
import Derived.Test.YtgoaggojbcdgeaaMvI
namespace Go.Proofs.Ytgoaggojbcdgeaa
open Go.RowKit Go.Shelf
set_option linter.unusedVariables false

set_option maxHeartbeats 1000000 in
theorem mv1_any (g n : Nat) (A : Option Addr) (cap : Nat) (x : Int) (A1 : Option Addr) (n1 p1 : Nat) (vs : List Int) (A2 : Option Addr) (n2 p2 : Nat) (cs : List Int) (z : Int) (A3 : Option Addr) (n3 p3 : Nat) (rows : List (List Int)) (w : World)
    (hn : n ≤ maxLen) (h : QR 0 w ((A1, n1, p1), (A2, n2, p2), (A3, n3, p3)) (x, vs, cs, z, rows)) (hc : w.cell? ⟨g, 0, none⟩ = some (.slice A n cap)) :
    Calls Try.prog 75 #[.agg #[.int .i64 x, .slice A1 n1 p1, .slice A2 n2 p2, .int .i64 z, .slice A3 n3 p3], .pointer (some ⟨g, 0, none⟩)] w (RetPr (¬ RuleOk n (x, vs, cs, z, rows)) w) := by
  have hg := World.block_lt_of_cell? _ _ hc
  have HS := Lib.hid h
  have HN := Lib.hid hn
  clear h
  unfold maxLen at hn
  go_enter Try.func75, Try.ntmps75
  go_wp2_with fail
  refine (ruleValid_any n x A1 n1 p1 vs A2 n2 p2 cs z A3 n3 p3 rows _ HN.out (HS.out.ext ((Ext.refl _).alloc _))).mono ?_
  rintro e w1 ⟨b1, rfl, hv, hE1⟩
  have HV := Lib.hid hv
  have HE := Lib.hid (((Ext.refl w).alloc _).trans hE1)
  clear hv hE1 hc hg
  go_wp2
  go_ret
  exact ⟨_, rfl, by rw [← HV.out]; cases b1 <;> simp, HE.out⟩

set_option maxRecDepth 100000 in
set_option maxHeartbeats 4000000 in
theorem implMV_any (A : Option Addr) (n cap : Nat) (v : List Int) (B : Option Addr) (m q : Nat) (rs : List Rl) (w : World) (h1 : QI 0 w (A, n, cap) v) (h2 : QRS 0 w (B, m, q) rs) :
    Calls Try.prog 34 #[.agg #[.slice A n cap, .slice B m q]] w (RetPr (ModelOk v rs) w) := by
  have L1 : Hid (v.length = n) := h1.2.1.lenI
  have L2 : Hid (rs.length = m) := h2.len
  have hn : n ≤ maxLen := h1.1
  have hm : m ≤ maxLen := h2.1
  have HN := Lib.hid hn
  have S1 := Lib.hid h1
  have S2 := Lib.hid h2
  clear h1 h2
  unfold maxLen at hn hm
  have eg : ∀ args w, (callFunc 75 args).run Try.prog w = .ok (.enter 75 args) w := enters_of Try.func75 (by kernel_rfl) rfl
  obtain ⟨r1, hr1⟩ : ∃ b, inB (n : Int) 1 5 = b := ⟨_, rfl⟩
  have HR1 := Lib.hid hr1
  clear hr1
  go_enter Try.func34, Try.ntmps34
  go_wp2_with fail
  refine (calls_val (within_any (n : Int) 1 5 _) (congrArg Value.bool HR1.out)).mono ?_
  rintro e w1 ⟨rfl, rfl⟩
  cases r1
  · have hF : Hid (¬ ModelOk v rs) := fun h => by have h1 := h.1; have h2 := h.2.1; have := L1.out; have hr := HR1.out; simp [inB] at hr; omega
    go_wp2
    go_ret
    exact RetPr.no hF.out ((Ext.refl _).alloc _)
  have hn15 : 1 ≤ n ∧ n ≤ 5 := by have hr := HR1.out; simp [inB] at hr; omega
  obtain ⟨hn1, hn5⟩ := hn15
  by_cases hr8 : 8 < m
  · have hF : Hid (¬ ModelOk v rs) := fun h => by have := h.2.2.2.2.1; have := L2.out; omega
    go_wp2
    go_ret
    exact RetPr.no hF.out ((Ext.refl _).alloc _)
  go_wp2_with fail
  go_loopw [3, 20] (fun s i wr => ∃ (k : Nat) (y : Int), k ≤ n ∧ s = .int .i64 y ∧ i = .int .i64 k ∧ Ext w wr ∧ Hid (Blk wr w.heap.size 55 #[.slice A n cap, .slice B m q]) ∧ 0 ≤ y ∧ y ≤ 4 * k ∧ Hid (y = szSum (v.take k)) ∧ Hid (∀ (i : Nat) (s : Int), i < k → v[i]? = some s → 0 ≤ s ∧ s ≤ 3)) (fun _ i _ => n - (intOf i).toNat)
  case atStart => exact ⟨0, 0, Nat.zero_le _, rfl, rfl, (Ext.refl _).alloc _, Blk.new _ _ _, by omega, by omega, rfl, fun i s hi _ => absurd hi (by omega)⟩
  case round =>
    obtain ⟨k, y, hk, rfl, rfl, hE, hB, hy0, hy1, hY, hR⟩ := hrel
    by_cases hlt : k < n
    · obtain ⟨b, off, c, rfl, hx, c1⟩ := (S1.out.2.1.ext hE).int hlt
      have HX := Lib.hid hx
      clear hx
      obtain ⟨r2, hr2⟩ : ∃ b, inB c 0 3 = b := ⟨_, rfl⟩
      have HR2 := Lib.hid hr2
      clear hr2
      cases r2
      · have hF : Hid (¬ ModelOk v rs) := fun h => by have := h.2.2.1 k c HX.out; have hr := HR2.out; simp [inB] at hr; omega
        go_wp2_with fail
        refine (calls_val (within_any c 0 3 _) (congrArg Value.bool HR2.out)).mono ?_
        rintro e w1 ⟨rfl, rfl⟩
        go_wp2
        go_ret
        exact RetPr.no hF.out hE
      have hc3 : 0 ≤ c ∧ c ≤ 3 := by have hr := HR2.out; simp [inB] at hr; omega
      obtain ⟨hc0, hc3⟩ := hc3
      have hR2 : Hid (∀ (i : Nat) (s : Int), i < k + 1 → v[i]? = some s → 0 ≤ s ∧ s ≤ 3) := fun i s hi hv => by
        rcases Nat.lt_or_ge i k with h | h
        · exact hR.out i s h hv
        · obtain rfl : i = k := by omega
          have := HX.out; rw [hv] at this; injection this with this; subst this; omega
      have hY2 : Hid (y + (c + 1) = szSum (v.take (k + 1))) := by rw [Hid, take_of_get _ _ _ HX.out, szSum_snoc, hY.out]
      go_wp2_with fail
      refine (calls_val (within_any c 0 3 _) (congrArg Value.bool HR2.out)).mono ?_
      rintro e w1 ⟨rfl, rfl⟩
      go_wp2
      go_roundw
      case rel => exact ⟨k + 1, y + (c + 1), by omega, by go_num, by go_num, hE, hB, by omega, by omega, hY2, hR2⟩
      case measure => simp [intOf]; omega
    · obtain rfl : k = n := by omega
      have hYv : Hid (y = szSum v) := by rw [Hid, hY.out, List.take_of_length_le (by rw [L1.out]; omega)]
      have hall : Hid (∀ (i : Nat) (s : Int), v[i]? = some s → 0 ≤ s ∧ s ≤ 3) := fun i s hv => hR.out i s (by have := (List.getElem?_eq_some_iff.1 hv).1; have := L1.out; omega) hv
      clear hY hR
      have b1 := hB.out.cell 1
      by_cases hs : y ≤ 12
      · go_wp2_with fail
        refine (containsFuncR_any _ #[.pointer (some ⟨w.heap.size, 0, none⟩)] (fun r => ¬ RuleOk k r) rs _ eg (fun x A1 n1 p1 vs A2 n2 p2 cs z A3 n3 p3 rows W hq hW => mv1_any w.heap.size k A cap x A1 n1 p1 vs A2 n2 p2 cs z A3 n3 p3 rows W HN.out hq ((hB.out.ext hW).cell 0)) B m q (S2.out.ext hE)).mono ?_
        rintro e w2 ⟨b2, rfl, hv, hE2⟩
        have HV := Lib.hid hv
        have HE2 := Lib.hid (hE.trans hE2)
        clear hv hE2 b1
        have hT : Hid (ModelOk v rs ↔ ¬ ∃ (j : Nat) (x : Rl), rs[j]? = some x ∧ ¬ RuleOk k x) := by
          have l1 := L1.out
          have l2 := L2.out
          constructor
          · rintro h ⟨j, r, hr, hn⟩
            have := h.2.2.2.2.2 j r hr
            rw [l1] at this; exact hn this
          · intro h
            exact ⟨by omega, by omega, hall.out, by have := hYv.out; omega, by omega, fun i r hr => by rw [l1]; exact Classical.byContradiction fun hn => h ⟨i, r, hr, hn⟩⟩
        go_wp2
        go_ret
        exact ⟨_, rfl, by rw [hT.out, ← HV.out]; cases b2 <;> simp, HE2.out⟩
      · have hF : Hid (¬ ModelOk v rs) := fun h => by have := h.2.2.2.1; have := hYv.out; omega
        go_wp2
        go_ret
        exact RetPr.no hF.out hE
end Go.Proofs.Ytgoaggojbcdgeaa
