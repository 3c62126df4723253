/- Valid rules and models: the program's ruleValid, ModelValid. -/
import Derived.Test.YtgoaggojbcdgeaaMvC
import Derived.Test.YtgoaggojbcdgeaaPV
import Derived.Test.YtgoaggojbcdgeaaConI
namespace Go.Proofs.Ytgoaggojbcdgeaa
open Go.RowKit Go.Shelf
set_option linter.unusedVariables false

def pv1 (z : Int) : Bool := decide (z = 0) || !inB z (-9) 9
def pv2 (z : Int) : Bool := !inB z 0 3

theorem Seg.takeI {w : World} {A : Option Addr} {n k : Nat} {xs : List Int} (h : Seg w 1 A n (encI xs)) (hk : k ≤ n) : Seg w 1 A k (encI (xs.take k)) := by
  have hl := h.lenI
  refine ⟨by simp [encI]; omega, fun h0 => ?_⟩
  obtain ⟨b, off, e, hc⟩ := h.2 (by omega)
  refine ⟨b, off, e, fun j u hu => hc j u ?_⟩
  unfold encI at hu ⊢
  rw [List.getElem?_map] at hu ⊢
  rw [List.getElem?_take] at hu
  split at hu
  · exact hu
  · cases hu

set_option maxHeartbeats 1000000 in
theorem rv1_any (z : Int) (w : World) : Calls Try.prog 99 #[.int .i64 z] w fun e w' => e = .returned (.bool (pv1 z)) ∧ Ext w w' := by
  by_cases h0 : z = 0
  · subst h0
    go_enter Try.func99, Try.ntmps99
    go_wp2
    go_ret
    exact ⟨ret_b (by simp [pv1]), Ext.refl _⟩
  · have hb : (z == 0) = false := by simpa using h0
    obtain ⟨q, hq⟩ : ∃ q, inB z (-9) 9 = q := ⟨_, rfl⟩
    have HQ := Lib.hid hq
    clear hq
    go_enter Try.func99, Try.ntmps99
    go_wp2_with fail
    refine (calls_val (within_any z (-9) 9 _) (congrArg Value.bool HQ.out)).mono ?_
    rintro e w1 ⟨rfl, rfl⟩
    go_wp2
    go_ret
    exact ⟨ret_b (by simp [pv1, HQ.out, h0]), Ext.refl _⟩

set_option maxHeartbeats 1000000 in
theorem rv21_any (z : Int) (w : World) : Calls Try.prog 102 #[.int .i64 z] w fun e w' => e = .returned (.bool (pv2 z)) ∧ Ext w w' := by
  obtain ⟨q, hq⟩ : ∃ q, inB z 0 3 = q := ⟨_, rfl⟩
  have HQ := Lib.hid hq
  clear hq
  go_enter Try.func102, Try.ntmps102
  go_wp2_with fail
  refine (calls_val (within_any z 0 3 _) (congrArg Value.bool HQ.out)).mono ?_
  rintro e w1 ⟨rfl, rfl⟩
  go_wp2
  go_ret
  exact ⟨ret_b (by simp [pv2, HQ.out]), Ext.refl _⟩

set_option maxHeartbeats 1000000 in
theorem rv2_any (A : Option Addr) (n cap : Nat) (r : List Int) (g : Nat) (A1 : Option Addr) (n1 p1 : Nat) (w : World) (hn1 : n1 ≤ maxLen) (h : QI 0 w (A, n, cap) r) (hc : w.cell? ⟨g, 1, none⟩ = some (.slice A1 n1 p1)) :
    Calls Try.prog 101 #[.slice A n cap, .pointer (some ⟨g, 0, none⟩)] w (RetPr (¬ (r.length = n1 ∧ ∀ (k : Nat) (x : Int), r[k]? = some x → 0 ≤ x ∧ x ≤ 3)) w) := by
  have HL : Hid (r.length = n) := h.2.1.lenI
  have hn : n ≤ maxLen := h.1
  have HS := Lib.hid h
  have HN := Lib.hid hn
  clear h
  unfold maxLen at hn hn1
  have eg : ∀ args w, (callFunc 102 args).run Try.prog w = .ok (.enter 102 args) w := enters_of Try.func102 (by kernel_rfl) rfl
  by_cases he : n = n1
  · subst he
    obtain ⟨q, hq⟩ : ∃ q, r.any pv2 = q := ⟨_, rfl⟩
    have HQ := Lib.hid hq
    clear hq
    go_enter Try.func101, Try.ntmps101
    go_wp2_with fail
    refine (calls_val (containsFuncI_any _ pv2 eg (fun z W => rv21_any z W) A n cap r _ HN.out HS.out.2.1) (congrArg Value.bool HQ.out)).mono ?_
    rintro e w1 ⟨rfl, hE1⟩
    go_wp2
    go_ret
    refine ⟨_, rfl, ?_, hE1⟩
    have hq := HQ.out
    have hl := HL.out
    cases q
    · rw [List.any_eq_false] at hq
      simp only [Bool.false_eq_true, false_iff, Classical.not_not]
      exact ⟨hl, fun k x hx => by have := hq x (List.mem_of_getElem? hx); simpa [pv2, inB] using this⟩
    · rw [List.any_eq_true] at hq
      obtain ⟨x, hx, hp⟩ := hq
      obtain ⟨k, hk, e⟩ := List.mem_iff_getElem.1 hx
      simp only [true_iff]
      intro h
      have := h.2 k x (by rw [← e]; exact List.getElem?_eq_getElem _)
      simp [pv2, inB] at hp
      omega
  · have hb : ((n : Int) == (n1 : Int)) = false := by simp; omega
    have hT : Hid (¬ (r.length = n1 ∧ ∀ (k : Nat) (x : Int), r[k]? = some x → 0 ≤ x ∧ x ≤ 3)) := fun h => by have := h.1; have := HL.out; omega
    go_enter Try.func101, Try.ntmps101
    go_wp2
    go_ret
    exact RetPr.yes hT.out (Ext.refl _)

set_option maxRecDepth 100000 in
set_option maxHeartbeats 4000000 in
theorem ruleValid_any (n : Nat) (x : Int) (A1 : Option Addr) (n1 p1 : Nat) (vs : List Int) (A2 : Option Addr) (n2 p2 : Nat) (cs : List Int) (z : Int) (A3 : Option Addr) (n3 p3 : Nat) (rows : List (List Int)) (w : World)
    (hn : n ≤ maxLen) (h : QR 0 w ((A1, n1, p1), (A2, n2, p2), (A3, n3, p3)) (x, vs, cs, z, rows)) :
    Calls Try.prog 76 #[.agg #[.int .i64 x, .slice A1 n1 p1, .slice A2 n2 p2, .int .i64 z, .slice A3 n3 p3], .int .i64 n] w (RetPr (RuleOk n (x, vs, cs, z, rows)) w) := by
  have L1 : Hid (vs.length = n1) := h.1.2.1.lenI
  have L2 : Hid (cs.length = n2) := h.2.1.2.1.lenI
  have L3 : Hid (rows.length = n3) := h.2.2.len
  have hn1 : n1 ≤ maxLen := h.1.1
  have hn2 : n2 ≤ maxLen := h.2.1.1
  have hn3 : n3 ≤ maxLen := h.2.2.1
  have hp1 : n1 ≤ p1 := h.1.2.2.2
  have HS := Lib.hid h
  have HN1 := Lib.hid hn1
  have HN2 := Lib.hid hn2
  clear h
  unfold maxLen at hn hn1 hn2 hn3
  have eg1 : ∀ args w, (callFunc 99 args).run Try.prog w = .ok (.enter 99 args) w := enters_of Try.func99 (by kernel_rfl) rfl
  have eg2 : ∀ args w, (callFunc 101 args).run Try.prog w = .ok (.enter 101 args) w := enters_of Try.func101 (by kernel_rfl) rfl
  go_enter Try.func76, Try.ntmps76
  go_wp2_with fail
  go_loopw [10] (fun i wr => ∃ k : Nat, k ≤ n1 ∧ i = .int .i64 k ∧ Ext w wr ∧ Hid (Blk wr w.heap.size 91 #[.int .i64 x, .slice A1 n1 p1, .slice A2 n2 p2, .int .i64 z, .slice A3 n3 p3]) ∧ Hid (∀ (i : Nat) (v : Int), i < k → vs[i]? = some v → 0 ≤ v ∧ v < n) ∧ Hid (∀ (i j : Nat) (v : Int), i < j → j < k → vs[i]? = some v → vs[j]? = some v → False)) (fun i _ => n1 - (intOf i).toNat)
  case atStart => exact ⟨0, Nat.zero_le _, rfl, (Ext.refl _).alloc _, Blk.new _ _ _, fun i v hi _ => absurd hi (by omega), fun i j v _ hj _ _ => absurd hj (by omega)⟩
  case round =>
    obtain ⟨k, hk, rfl, hE, hB, hR, hD⟩ := hrel
    by_cases hlt : k < n1
    · have HSeg : Hid (Seg wr 1 A1 k (encI (vs.take k))) := (HS.out.1.2.1.ext hE).takeI hk
      obtain ⟨b, off, v, rfl, hx, c1⟩ := (HS.out.1.2.1.ext hE).int hlt
      have HX := Lib.hid hx
      have b1 := hB.out.cell 1
      have lb := hB.out.lt
      clear hx
      by_cases hin : inB v 0 ((n : Int) - 1) = true
      · have hv : 0 ≤ v ∧ v ≤ (n : Int) - 1 := by simpa [inB] using hin
        have HI := Lib.hid hin
        obtain ⟨q, hq⟩ : ∃ q, (vs.take k).contains v = q := ⟨_, rfl⟩
        have HQ := Lib.hid hq
        clear hin hq
        go_wp2_with fail
        refine (calls_val (within_any v 0 ((n : Int) - 1) _) (congrArg Value.bool HI.out)).mono ?_
        rintro e w1 ⟨rfl, rfl⟩
        go_wp2_with fail
        refine (calls_val (containsI_any (some ⟨b, off, none⟩) k p1 (vs.take k) v _ (Nat.le_trans (Nat.le_of_lt hlt) HN1.out) HSeg.out) (congrArg Value.bool HQ.out)).mono ?_
        rintro e w1 ⟨rfl, rfl⟩
        cases q
        · have hD2 : Hid (∀ (i j : Nat) (u : Int), i < j → j < k + 1 → vs[i]? = some u → vs[j]? = some u → False) := fun i j u h1 h2 hu hu' => by
            rcases Nat.lt_or_ge j k with h | h
            · exact hD.out i j u h1 h hu hu'
            · obtain rfl : j = k := by omega
              have := HX.out; rw [hu'] at this; injection this with this; subst this
              have hq := HQ.out
              rw [List.contains_eq_mem, decide_eq_false_iff_not] at hq
              exact hq (List.mem_of_getElem? (i := i) (by rw [List.getElem?_take, if_pos h1]; exact hu))
          have hR2 : Hid (∀ (i : Nat) (u : Int), i < k + 1 → vs[i]? = some u → 0 ≤ u ∧ u < n) := fun i u hi hu => by
            rcases Nat.lt_or_ge i k with h | h
            · exact hR.out i u h hu
            · obtain rfl : i = k := by omega
              have := HX.out; rw [hu] at this; injection this with this; subst this; omega
          clear b1 c1 lb
          go_wp2
          go_roundw
          case rel => exact ⟨k + 1, by omega, by go_num, hE, hB, hR2, hD2⟩
          case measure => simp [intOf]; omega
        · have hF : Hid (¬ RuleOk n (x, vs, cs, z, rows)) := fun h => by
            have hq := HQ.out
            rw [List.contains_eq_mem, decide_eq_true_eq] at hq
            obtain ⟨i, hi, ei⟩ := List.mem_iff_getElem.1 hq
            have hik : i < k := by rw [List.length_take] at hi; omega
            exact h.1.2.1 i k v hik (by rw [← ei, List.getElem_take]; exact List.getElem?_eq_getElem _) HX.out
          clear b1 c1 lb
          go_wp2
          go_ret
          exact RetPr.no hF.out hE
      · have hin' : inB v 0 ((n : Int) - 1) = false := by simpa using hin
        have HI := Lib.hid hin'
        have hF : Hid (¬ RuleOk n (x, vs, cs, z, rows)) := fun h => by have := h.1.1 k v HX.out; exact hin (by simp [inB]; omega)
        clear hin hin'
        go_wp2_with fail
        refine (calls_val (within_any v 0 ((n : Int) - 1) _) (congrArg Value.bool HI.out)).mono ?_
        rintro e w1 ⟨rfl, rfl⟩
        go_wp2
        go_ret
        exact RetPr.no hF.out hE
    · obtain rfl : k = n1 := by omega
      have hV : Hid (VarsOk n vs ↔ 1 ≤ k) := by
        have hlen := L1.out
        constructor
        · intro h; have := h.2.2; omega
        · intro h
          refine ⟨fun i v hv => hR.out i v ?_ hv, fun i j v hij hi hj => hD.out i j v hij ?_ hi hj, by omega⟩
          · have := (List.getElem?_eq_some_iff.1 hv).1; omega
          · have := (List.getElem?_eq_some_iff.1 hj).1; omega
      clear hR hD
      have c0 := hB.out.cell 0
      have c1 := hB.out.cell 1
      have c2 := hB.out.cell 2
      have c3 := hB.out.cell 3
      have c4 := hB.out.cell 4
      have lb := hB.out.lt
      by_cases hk0 : k = 0
      · have hF : Hid (¬ RuleOk n (x, vs, cs, z, rows)) := fun h => by have := hV.out.1 h.1; omega
        subst hk0
        go_wp2
        go_ret
        exact RetPr.no hF.out hE
      have hbk : ((k : Int) == 0) = false := by simp; omega
      have HV2 : Hid (VarsOk n vs) := hV.out.2 (by omega)
      clear hV
      by_cases hx1 : x = 1
      · subst hx1
        by_cases h3 : n3 = 0
        · subst h3
          by_cases he : n2 = k
          · subst he
            obtain ⟨q1, hq1⟩ : ∃ q, inB z (-1000) 1000 = q := ⟨_, rfl⟩
            obtain ⟨q2, hq2⟩ : ∃ q, cs.any pv1 = q := ⟨_, rfl⟩
            have HQ1 := Lib.hid hq1
            have HQ2 := Lib.hid hq2
            clear hq1 hq2
            go_wp2_with fail
            refine (calls_val (within_any z (-1000) 1000 _) (congrArg Value.bool HQ1.out)).mono ?_
            rintro e w1 ⟨rfl, rfl⟩
            cases q1
            · have hF : Hid (¬ RuleOk n (1, vs, cs, z, rows)) := fun h => by have := (h.2.2.2.1 rfl).2.2; have hq := HQ1.out; simp [inB] at hq this; omega
              go_wp2
              go_ret
              exact RetPr.no hF.out hE
            go_wp2_with fail
            refine (calls_val (containsFuncI_any _ pv1 eg1 (fun z W => rv1_any z W) A2 n2 p2 cs _ HN2.out (HS.out.2.1.2.1.ext hE)) (congrArg Value.bool HQ2.out)).mono ?_
            rintro e w2 ⟨rfl, hE2⟩
            have HE2 := Lib.hid (hE.trans hE2)
            clear hE2 c0 c1 c2 c3 c4 lb
            have hq1 := HQ1.out
            have hq2 := HQ2.out
            have l1 := L1.out
            have l2 := L2.out
            have l3 := L3.out
            cases q2
            · have hT : Hid (RuleOk n (1, vs, cs, z, rows)) := ⟨HV2.out, fun h => absurd rfl h, fun _ => by simp only; omega, fun _ => ⟨fun i c hc => by rw [List.any_eq_false] at hq2; have := hq2 c (List.mem_of_getElem? hc); simp [pv1, inB] at this; omega, by simp only; omega, by simp [inB] at hq1; omega⟩, fun h => absurd h (by simp), fun h => absurd h (by simp), .inl rfl⟩
              clear hq1 hq2 l1 l2 l3
              go_wp2
              go_ret
              exact RetPr.yes hT.out HE2.out
            · have hF : Hid (¬ RuleOk n (1, vs, cs, z, rows)) := fun h => by
                rw [List.any_eq_true] at hq2
                obtain ⟨c, hc, hp⟩ := hq2
                obtain ⟨i, hi, ei⟩ := List.mem_iff_getElem.1 hc
                have := (h.2.2.2.1 rfl).1 i c (by rw [← ei]; exact List.getElem?_eq_getElem _)
                simp [pv1, inB] at hp
                omega
              clear hq1 hq2 l1 l2 l3
              go_wp2
              go_ret
              exact RetPr.no hF.out HE2.out
          · have hbe : ((n2 : Int) == (k : Int)) = false := by simp; omega
            have hF : Hid (¬ RuleOk n (1, vs, cs, z, rows)) := fun h => by have := (h.2.2.2.1 rfl).2.1; have := L1.out; have := L2.out; simp only at *; omega
            go_wp2
            go_ret
            exact RetPr.no hF.out hE
        · have hpos : 0 < (n3 : Int) := by omega
          have hF : Hid (¬ RuleOk n (1, vs, cs, z, rows)) := fun h => by have := h.2.2.1 (by simp only; omega); have := L3.out; simp only at *; omega
          go_wp2
          go_ret
          exact RetPr.no hF.out hE
      have hb0 : (x == 1) = false := by simp; omega
      have hb1 : (x != 1) = true := by simp; omega
      by_cases h2 : n2 = 0
      · subst h2
        by_cases hz : z = 0
        · subst hz
          by_cases hx3 : x = 3
          · subst hx3
            by_cases h8 : n3 ≤ 8
            · have h8' : (n3 : Int) ≤ 8 := by omega
              go_wp2_with fail
              refine (containsFuncII_any _ #[.pointer (some ⟨w.heap.size, 0, none⟩)] (fun r => ¬ (r.length = k ∧ ∀ (k : Nat) (x : Int), r[k]? = some x → 0 ≤ x ∧ x ≤ 3)) rows _ eg2 (fun A n cap r W hq hW => rv2_any A n cap r w.heap.size A1 k p1 W HN1.out hq ((hB.out.ext hW).cell 1)) A3 n3 p3 (HS.out.2.2.ext hE)).mono ?_
              rintro e w2 ⟨b2, rfl, hv, hE2⟩
              have HV := Lib.hid hv
              have HE2 := Lib.hid (hE.trans hE2)
              clear hv hE2 c0 c1 c2 c3 c4 lb
              have l1 := L1.out
              have l2 := L2.out
              have l3 := L3.out
              have hT : Hid (RuleOk n (3, vs, cs, 0, rows) ↔ ¬ ∃ (j : Nat) (x : List Int), rows[j]? = some x ∧ ¬ (x.length = k ∧ ∀ (k : Nat) (y : Int), x[k]? = some y → 0 ≤ y ∧ y ≤ 3)) := ⟨fun h ⟨j, r, hr, hn⟩ => hn (by have := (h.2.2.2.2.1 rfl).1 j r hr; simp only at this; rw [l1] at this; exact this), fun h => ⟨HV2.out, fun _ => ⟨by simp only; omega, rfl⟩, fun h => absurd rfl h, fun h => absurd h (by simp), fun _ => ⟨fun j r hr => by simp only; rw [l1]; exact Classical.byContradiction fun hn => h ⟨j, r, hr, hn⟩, by simp only; omega⟩, fun h => absurd h (by simp), .inr (.inr (.inl rfl))⟩⟩
              clear l1 l2 l3
              go_wp2
              go_ret
              exact ⟨_, rfl, by rw [hT.out, ← HV.out]; cases b2 <;> simp, HE2.out⟩
            · have h8' : ¬ (n3 : Int) ≤ 8 := by omega
              have hF : Hid (¬ RuleOk n (3, vs, cs, 0, rows)) := fun h => by have := (h.2.2.2.2.1 rfl).2; have := L3.out; simp only at *; omega
              go_wp2
              go_ret
              exact RetPr.no hF.out hE
          have hb2 : (x == 3) = false := by simp; omega
          have hb3 : (x != 3) = true := by simp; omega
          by_cases h3 : n3 = 0
          · subst h3
            by_cases hx4 : x = 4
            · subst hx4
              have hT : Hid (RuleOk n (4, vs, cs, 0, rows) ↔ k = 2) := ⟨fun h => by have := h.2.2.2.2.2.1 rfl; have := L1.out; simp only at *; omega, fun h1 => ⟨HV2.out, fun _ => ⟨by have := L2.out; simp only; omega, rfl⟩, fun _ => by have := L3.out; simp only; omega, fun h => absurd h (by simp), fun h => absurd h (by simp), fun _ => by have := L1.out; simp only; omega, .inr (.inr (.inr rfl))⟩⟩
              go_wp2
              go_ret
              exact ⟨_, rfl, by rw [hT.out]; simp; omega, hE⟩
            have hb4 : (x == 4) = false := by simp; omega
            have hb5 : (x != 4) = true := by simp; omega
            have hT : Hid (RuleOk n (x, vs, cs, 0, rows) ↔ x = 2) := ⟨fun h => by have := h.2.2.2.2.2.2; simp only at *; omega, fun h1 => ⟨HV2.out, fun _ => ⟨by have := L2.out; simp only; omega, rfl⟩, fun _ => by have := L3.out; simp only; omega, fun h => absurd h (by simp only; omega), fun h => absurd h (by simp only; omega), fun h => absurd h (by simp only; omega), .inr (.inl h1)⟩⟩
            go_wp2
            go_ret
            exact ⟨_, rfl, by rw [hT.out]; simp, hE⟩
          · have hpos : 0 < (n3 : Int) := by omega
            have hF : Hid (¬ RuleOk n (x, vs, cs, 0, rows)) := fun h => by have := h.2.2.1 (by simp only; omega); have := L3.out; simp only at *; omega
            go_wp2
            go_ret
            exact RetPr.no hF.out hE
        · skip
          have hb6 : (z == 0) = false := by simp; omega
          have hb7 : (z != 0) = true := by simp; omega
          have hF : Hid (¬ RuleOk n (x, vs, cs, z, rows)) := fun h => by exact hz (h.2.1 hx1).2
          go_wp2
          go_ret
          exact RetPr.no hF.out hE
      · have hpos2 : 0 < (n2 : Int) := by omega
        have hF : Hid (¬ RuleOk n (x, vs, cs, z, rows)) := fun h => by have := (h.2.1 hx1).1; have := L2.out; simp only at *; omega
        go_wp2
        go_ret
        exact RetPr.no hF.out hE
end Go.Proofs.Ytgoaggojbcdgeaa
