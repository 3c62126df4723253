/- Valid cells: the reference's l6Cells, CellsValid; the program's CellsValid. -/
import Derived.Test.YtgoaggojbcdgeaaMvM
namespace Go.Proofs.Ytgoaggojbcdgeaa
open Go.RowKit Go.Shelf
set_option linter.unusedVariables false

def CellsOk (v cs : List Int) : Prop := cs.length = v.length ∧ ∀ (i : Nat) (c s : Int), cs[i]? = some c → v[i]? = some s → 0 ≤ c ∧ c ≤ s

set_option maxRecDepth 100000 in
set_option maxHeartbeats 2000000 in
theorem l6Cells_any (A : Option Addr) (n cap : Nat) (v : List Int) (B : Option Addr) (m q : Nat) (A1 : Option Addr) (n1 p1 : Nat) (cs : List Int) (w : World) (h1 : QI 0 w (A, n, cap) v) (h2 : QI 0 w (A1, n1, p1) cs) :
    Calls Try.prog 77 #[.agg #[.slice A n cap, .slice B m q], .slice A1 n1 p1] w (RetPr (CellsOk v cs) w) := by
  have L1 : Hid (v.length = n) := h1.2.1.lenI
  have L2 : Hid (cs.length = n1) := h2.2.1.lenI
  have hn : n ≤ maxLen := h1.1
  have hn1 : n1 ≤ maxLen := h2.1
  have S1 := Lib.hid h1
  have S2 := Lib.hid h2
  clear h1 h2
  unfold maxLen at hn hn1
  by_cases he : n1 = n
  · subst he
    go_enter Try.func77, Try.ntmps77
    go_wp2_with fail
    go_loopw [5] (fun i wr => ∃ k : Nat, k ≤ n1 ∧ i = .int .i64 k ∧ Ext w wr ∧ Hid (Blk wr w.heap.size 55 #[.slice A n1 cap, .slice B m q]) ∧ Hid (∀ (i : Nat) (c s : Int), i < k → cs[i]? = some c → v[i]? = some s → 0 ≤ c ∧ c ≤ s)) (fun i _ => n1 - (intOf i).toNat)
    case atStart => exact ⟨0, Nat.zero_le _, rfl, (Ext.refl _).alloc _, Blk.new _ _ _, fun i c s hi _ _ => absurd hi (by omega)⟩
    case round =>
      obtain ⟨k, hk, rfl, hE, hB, hR⟩ := hrel
      by_cases hlt : k < n1
      · obtain ⟨b, off, c, rfl, hx, c1⟩ := (S2.out.2.1.ext hE).int hlt
        obtain ⟨b', off', s, rfl, hx', d1⟩ := (S1.out.2.1.ext hE).int hlt
        have HX := Lib.hid hx
        have HX' := Lib.hid hx'
        have b0 := hB.out.cell 0
        clear hx hx'
        by_cases hz1 : c < 0
        · have hF : Hid (¬ CellsOk v cs) := fun h => by have := h.2 k c s HX.out HX'.out; omega
          go_wp2_with fail
          go_quiet (fail)
          clear b0 c1 d1
          go_wp2
          go_ret
          exact RetPr.no hF.out (hE.drewN _)
        by_cases hz2 : s < c
        · have hF : Hid (¬ CellsOk v cs) := fun h => by have := h.2 k c s HX.out HX'.out; omega
          go_wp2_with fail
          go_quiet (fail)
          clear b0 c1 d1
          go_wp2
          go_ret
          exact RetPr.no hF.out (hE.drewN _)
        have hR2 : Hid (∀ (i : Nat) (c s : Int), i < k + 1 → cs[i]? = some c → v[i]? = some s → 0 ≤ c ∧ c ≤ s) := fun i c' s' hi hv hs => by
          rcases Nat.lt_or_ge i k with h | h
          · exact hR.out i c' s' h hv hs
          · obtain rfl : i = k := by omega
            have e1 := HX.out; rw [hv] at e1; injection e1 with e1; subst e1
            have e2 := HX'.out; rw [hs] at e2; injection e2 with e2; subst e2
            omega
        go_wp2_with fail
        go_quiet (fail)
        clear b0 c1 d1
        go_wp2
        go_roundw
        case rel => exact ⟨k + 1, by omega, by go_num, hE.drewN _, hB.out.drewN _, hR2⟩
        case measure => simp [intOf]; omega
      · obtain rfl : k = n1 := by omega
        have hT : Hid (CellsOk v cs) := ⟨by rw [L1.out, L2.out], fun i c s hc hs => hR.out i c s (by have := (List.getElem?_eq_some_iff.1 hc).1; have := L2.out; omega) hc hs⟩
        go_wp2
        go_ret
        exact RetPr.yes hT.out hE
  · have hb : ((n1 : Int) == (n : Int)) = false := by simp; omega
    have hF : Hid (¬ CellsOk v cs) := fun h => by have := h.1; have := L1.out; have := L2.out; omega
    go_enter Try.func77, Try.ntmps77
    go_wp2
    go_ret
    exact RetPr.no hF.out ((Ext.refl _).alloc _)

set_option maxRecDepth 100000 in
set_option maxHeartbeats 2000000 in
theorem specCV_any (A : Option Addr) (n cap : Nat) (v : List Int) (B : Option Addr) (m q : Nat) (rs : List Rl) (A1 : Option Addr) (n1 p1 : Nat) (cs : List Int) (w : World) (h1 : QI 0 w (A, n, cap) v) (h2 : QRS 0 w (B, m, q) rs) (h3 : QI 0 w (A1, n1, p1) cs) :
    Calls Try.prog 35 #[.agg #[.slice A n cap, .slice B m q], .slice A1 n1 p1] w (RetPr (ModelOk v rs ∧ CellsOk v cs) w) := by
  have S1 := Lib.hid h1
  have S2 := Lib.hid h2
  have S3 := Lib.hid h3
  clear h1 h2 h3
  go_enter Try.func35, Try.ntmps35
  go_wp2_with fail
  refine (specMV_any A n cap v B m q rs _ (S1.out.ext ((Ext.refl _).alloc _)) (S2.out.ext ((Ext.refl _).alloc _))).mono ?_
  rintro e w1 ⟨b1, rfl, hv, hE1⟩
  have K := Blk.of1 hE1
  have HE1 := Lib.hid (((Ext.refl w).alloc _).trans hE1)
  have HV := Lib.hid hv
  have c0 := K.cell 0
  have c1 := K.cell 1
  have l0 := K.lt
  clear K hE1 hv
  cases b1
  · have hF : Hid (¬ (ModelOk v rs ∧ CellsOk v cs)) := fun h => by have := HV.out.2 h.1; cases this
    go_wp2
    go_ret
    exact RetPr.no hF.out HE1.out
  have hM : Hid (ModelOk v rs) := HV.out.1 rfl
  clear HV
  go_wp2_with fail
  refine (l6Cells_any A n cap v B m q A1 n1 p1 cs _ (S1.out.ext HE1.out) (S3.out.ext HE1.out)).mono ?_
  rintro e w2 ⟨b2, rfl, hv, hE2⟩
  have HV := Lib.hid hv
  have HE2 := Lib.hid (HE1.out.trans hE2)
  clear hv hE2 c0 c1 l0
  go_wp2
  go_ret
  exact ⟨_, rfl, by rw [HV.out]; exact ⟨fun h => ⟨hM.out, h⟩, fun h => h.2⟩, HE2.out⟩

set_option maxRecDepth 100000 in
set_option maxHeartbeats 2000000 in
theorem implCV_any (A : Option Addr) (n cap : Nat) (v : List Int) (B : Option Addr) (m q : Nat) (rs : List Rl) (A1 : Option Addr) (n1 p1 : Nat) (cs : List Int) (w : World) (h1 : QI 0 w (A, n, cap) v) (h2 : QRS 0 w (B, m, q) rs) (h3 : QI 0 w (A1, n1, p1) cs) :
    Calls Try.prog 36 #[.agg #[.slice A n cap, .slice B m q], .slice A1 n1 p1] w (RetPr (ModelOk v rs ∧ CellsOk v cs) w) := by
  have L1 : Hid (v.length = n) := h1.2.1.lenI
  have L2 : Hid (cs.length = n1) := h3.2.1.lenI
  have hn : n ≤ maxLen := h1.1
  have hn1 : n1 ≤ maxLen := h3.1
  have S1 := Lib.hid h1
  have S2 := Lib.hid h2
  have S3 := Lib.hid h3
  clear h1 h2 h3
  unfold maxLen at hn hn1
  go_enter Try.func36, Try.ntmps36
  go_wp2_with fail
  refine (implMV_any A n cap v B m q rs _ (S1.out.ext ((Ext.refl _).alloc _)) (S2.out.ext ((Ext.refl _).alloc _))).mono ?_
  rintro e w1 ⟨b1, rfl, hv, hE1⟩
  have K := Blk.of1 hE1
  have HE1 := Lib.hid (((Ext.refl w).alloc _).trans hE1)
  have HV := Lib.hid hv
  have HK := Lib.hid K
  have c0 := K.cell 0
  have l0 := K.lt
  clear K hE1 hv
  cases b1
  · have hF : Hid (¬ (ModelOk v rs ∧ CellsOk v cs)) := fun h => by have := HV.out.2 h.1; cases this
    go_wp2
    go_ret
    exact RetPr.no hF.out HE1.out
  have hM : Hid (ModelOk v rs) := HV.out.1 rfl
  clear HV
  by_cases he : n1 = n
  · subst he
    go_wp2_with fail
    clear c0 l0
    go_loopw [20] (fun i wr => ∃ k : Nat, k ≤ n1 ∧ i = .int .i64 k ∧ Ext w1 wr ∧ Hid (∀ (i : Nat) (c s : Int), i < k → cs[i]? = some c → v[i]? = some s → 0 ≤ c ∧ c ≤ s)) (fun i _ => n1 - (intOf i).toNat)
    case atStart => exact ⟨0, Nat.zero_le _, rfl, Ext.refl _, fun i c s hi _ _ => absurd hi (by omega)⟩
    case round =>
      obtain ⟨k, hk, rfl, hE, hR⟩ := hrel
      by_cases hlt : k < n1
      · obtain ⟨b, off, c, rfl, hx, c1⟩ := (S3.out.2.1.ext (HE1.out.trans hE)).int hlt
        obtain ⟨b', off', s, rfl, hx', d1⟩ := (S1.out.2.1.ext (HE1.out.trans hE)).int hlt
        have HX := Lib.hid hx
        have HX' := Lib.hid hx'
        have b0 := (HK.out.ext hE).cell 0
        clear hx hx'
        obtain ⟨r2, hr2⟩ : ∃ b, inB c 0 s = b := ⟨_, rfl⟩
        have HR2 := Lib.hid hr2
        clear hr2
        cases r2
        · have hF : Hid (¬ (ModelOk v rs ∧ CellsOk v cs)) := fun h => by have := h.2.2 k c s HX.out HX'.out; have hr := HR2.out; simp [inB] at hr; omega
          go_wp2_with fail
          refine (calls_val (within_any c 0 s _) (congrArg Value.bool HR2.out)).mono ?_
          rintro e w2 ⟨rfl, rfl⟩
          clear b0 c1 d1
          go_wp2
          go_ret
          exact RetPr.no hF.out (HE1.out.trans hE)
        have hR2 : Hid (∀ (i : Nat) (c s : Int), i < k + 1 → cs[i]? = some c → v[i]? = some s → 0 ≤ c ∧ c ≤ s) := fun i c' s' hi hv hs => by
          rcases Nat.lt_or_ge i k with h | h
          · exact hR.out i c' s' h hv hs
          · obtain rfl : i = k := by omega
            have e1 := HX.out; rw [hv] at e1; injection e1 with e1; subst e1
            have e2 := HX'.out; rw [hs] at e2; injection e2 with e2; subst e2
            have hr := HR2.out; simp [inB] at hr; omega
        go_wp2_with fail
        refine (calls_val (within_any c 0 s _) (congrArg Value.bool HR2.out)).mono ?_
        rintro e w2 ⟨rfl, rfl⟩
        clear b0 c1 d1
        go_wp2
        go_roundw
        case rel => exact ⟨k + 1, by omega, by go_num, hE, hR2⟩
        case measure => simp [intOf]; omega
      · obtain rfl : k = n1 := by omega
        have hT : Hid (ModelOk v rs ∧ CellsOk v cs) := ⟨hM.out, by rw [L1.out, L2.out], fun i c s hc hs => hR.out i c s (by have := (List.getElem?_eq_some_iff.1 hc).1; have := L2.out; omega) hc hs⟩
        go_wp2
        go_ret
        exact RetPr.yes hT.out (HE1.out.trans hE)
  · have hb : ((n1 : Int) == (n : Int)) = false := by simp; omega
    have hF : Hid (¬ (ModelOk v rs ∧ CellsOk v cs)) := fun h => by have := h.2.1; have := L1.out; have := L2.out; omega
    go_wp2
    go_ret
    exact RetPr.no hF.out HE1.out
end Go.Proofs.Ytgoaggojbcdgeaa
