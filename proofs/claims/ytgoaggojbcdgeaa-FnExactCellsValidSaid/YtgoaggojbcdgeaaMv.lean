/- Valid rules: the reference's l6Vars, l6Linear, l6Table. Contracts by propositions (RetPr). -/
import Derived.Test.YtgoaggojbcdgeaaMd
namespace Go.Proofs.Ytgoaggojbcdgeaa
open Go.RowKit
set_option linter.unusedVariables false

/-- returns whether P -/
def RetPr (P : Prop) (w : World) (e : Ending) (w' : World) : Prop := ∃ b : Bool, e = .returned (.bool b) ∧ (b = true ↔ P) ∧ Ext w w'
theorem RetPr.no {P : Prop} {w w' : World} (h : ¬ P) (hE : Ext w w') : RetPr P w (.returned (.bool false)) w' := ⟨false, rfl, by simp [h], hE⟩
theorem RetPr.yes {P : Prop} {w w' : World} (h : P) (hE : Ext w w') : RetPr P w (.returned (.bool true)) w' := ⟨true, rfl, by simp [h], hE⟩

/-- different variables of a model of m cells, one at least -/
def VarsOk (m : Nat) (vs : List Int) : Prop := (∀ (i : Nat) (v : Int), vs[i]? = some v → 0 ≤ v ∧ v < m) ∧ (∀ (i j : Nat) (v : Int), i < j → vs[i]? = some v → vs[j]? = some v → False) ∧ 1 ≤ vs.length

set_option maxRecDepth 100000 in
set_option maxHeartbeats 2000000 in
theorem l6Vars_any (A : Option Addr) (n cap : Nat) (B : Option Addr) (m q : Nat) (A1 : Option Addr) (n1 p1 : Nat) (vs : List Int) (w : World) (hn : n ≤ maxLen) (h1 : QI 0 w (A1, n1, p1) vs) :
    Calls Try.prog 94 #[.agg #[.slice A n cap, .slice B m q], .slice A1 n1 p1] w (RetPr (VarsOk n vs) w) := by
  have HL : Hid (vs.length = n1) := h1.2.1.lenI
  have hn1 : n1 ≤ maxLen := h1.1
  have HS := Lib.hid h1
  clear h1
  unfold maxLen at hn hn1
  go_enter Try.func94, Try.ntmps94
  go_wp2_with fail
  go_loopw [5] (fun i wr => ∃ k : Nat, k ≤ n1 ∧ i = .int .i64 k ∧ Ext w wr ∧ Hid (Blk wr w.heap.size 55 #[.slice A n cap, .slice B m q]) ∧ Hid (∀ (i : Nat) (v : Int), i < k → vs[i]? = some v → 0 ≤ v ∧ v < n) ∧ Hid (∀ (i j : Nat) (v : Int), i < j → j < k → vs[i]? = some v → vs[j]? = some v → False)) (fun i _ => n1 - (intOf i).toNat)
  case atStart => exact ⟨0, Nat.zero_le _, rfl, (Ext.refl _).alloc _, Blk.new _ _ _, fun i v hi _ => absurd hi (by omega), fun i j v _ hj _ _ => absurd hj (by omega)⟩
  case round =>
    obtain ⟨k, hk, rfl, hE, hB, hR, hD⟩ := hrel
    by_cases hlt : k < n1
    · obtain ⟨b, off, z, rfl, hx, c1⟩ := (HS.out.2.1.ext hE).int hlt
      have HX := Lib.hid hx
      have b0 := hB.out.cell 0
      have hkk : (0 : Int) ≤ (k : Int) := Int.natCast_nonneg _
      clear hx
      by_cases hz1 : z < 0
      · have hF : Hid (¬ VarsOk n vs) := fun h => by have := h.1 k z HX.out; omega
        go_wp2_with fail
        go_quiet (fail)
        clear b0 c1
        go_wp2
        go_ret
        exact RetPr.no hF.out (hE.drewN _)
      by_cases hz2 : (n : Int) ≤ z
      · have hF : Hid (¬ VarsOk n vs) := fun h => by have := h.1 k z HX.out; omega
        go_wp2_with fail
        go_quiet (fail)
        clear b0 c1
        go_wp2
        go_ret
        exact RetPr.no hF.out (hE.drewN _)
      go_wp2_with fail
      go_quiet (fail)
      clear b0 c1
      go_wp2_with fail
      go_loopw [6] (fun i wr' => ∃ j : Nat, j ≤ k ∧ i = .int .i64 j ∧ Ext wr wr' ∧ Hid (∀ (i : Nat), i < j → vs[i]? = some z → False)) (fun i _ => k - (intOf i).toNat)
      case atStart => exact ⟨0, Nat.zero_le _, rfl, (Ext.refl _).drewN _, fun i hi _ => absurd hi (by omega)⟩
      case round =>
        obtain ⟨j, hj, rfl, hE2, hD2⟩ := hrel
        by_cases hjk : j < k
        · obtain ⟨b', off', z', hA, hx', c2⟩ := (HS.out.2.1.ext (hE.trans hE2)).int (show j < n1 by omega)
          obtain ⟨b3, off3, z3, hA3, hx3, c3⟩ := (HS.out.2.1.ext (hE.trans hE2)).int hlt
          simp only [Option.some.injEq, Addr.mk.injEq, and_true] at hA hA3
          obtain ⟨rfl, rfl⟩ := hA
          obtain ⟨rfl, rfl⟩ := hA3
          have e3 := HX.out
          rw [hx3] at e3
          injection e3 with e3
          subst e3
          have HX' := Lib.hid hx'
          clear hx' hx3
          by_cases hzz : z' = z3
          · subst hzz
            have hF : Hid (¬ VarsOk n vs) := fun h => h.2.1 j k z' hjk HX'.out HX.out
            go_wp2_with fail
            go_quiet (fail)
            clear c2 c3
            go_wp2
            go_ret
            exact RetPr.no hF.out ((hE.trans hE2).drewN _)
          · have hb : (z' == z3) = false := by simpa using hzz
            have hD3 : Hid (∀ (i : Nat), i < j + 1 → vs[i]? = some z3 → False) := fun i hi hv => by
              rcases Nat.lt_or_ge i j with h | h
              · exact hD2.out i h hv
              · obtain rfl : i = j := by omega
                have := HX'.out; rw [hv] at this; injection this with this; exact hzz this.symm
            clear hzz
            go_wp2_with fail
            go_quiet (fail)
            clear c2 c3 hb
            go_wp2
            go_roundw
            case rel => exact ⟨j + 1, by omega, by go_num, hE2.drewN _, hD3⟩
            case measure => simp [intOf]; omega
        · obtain rfl : j = k := by omega
          have hR2 : Hid (∀ (i : Nat) (v : Int), i < j + 1 → vs[i]? = some v → 0 ≤ v ∧ v < n) := fun i v hi hv => by
            rcases Nat.lt_or_ge i j with h | h
            · exact hR.out i v h hv
            · obtain rfl : i = j := by omega
              have := HX.out; rw [hv] at this; injection this with this; subst this; omega
          have hD4 : Hid (∀ (i i' : Nat) (v : Int), i < i' → i' < j + 1 → vs[i]? = some v → vs[i']? = some v → False) := fun i i' v h1 h2 hv hv' => by
            rcases Nat.lt_or_ge i' j with h | h
            · exact hD.out i i' v h1 h hv hv'
            · obtain rfl : i' = j := by omega
              have := HX.out; rw [hv'] at this; injection this with this; subst this
              exact hD2.out i h1 hv
          go_wp2
          go_roundw
          case rel => exact ⟨j + 1, by omega, by go_num, hE.trans hE2, hB.out.ext hE2, hR2, hD4⟩
          case measure => simp [intOf]; omega
    · obtain rfl : k = n1 := by omega
      have hV : Hid (VarsOk n vs ↔ 1 ≤ k) := by
        have hlen := HL.out
        constructor
        · intro h; have := h.2.2; omega
        · intro h
          refine ⟨fun i v hv => hR.out i v ?_ hv, fun i j v hij hi hj => hD.out i j v hij ?_ hi hj, by omega⟩
          · have := (List.getElem?_eq_some_iff.1 hv).1; omega
          · have := (List.getElem?_eq_some_iff.1 hj).1; omega
      by_cases h0 : 1 ≤ k
      · go_wp2
        go_ret
        exact ⟨_, rfl, by rw [hV.out]; simp; omega, hE⟩
      · go_wp2
        go_ret
        exact ⟨_, rfl, by rw [hV.out]; simp; omega, hE⟩

def LinOk (nv : Nat) (cs : List Int) (bd : Int) : Prop := (∀ (i : Nat) (c : Int), cs[i]? = some c → -9 ≤ c ∧ c ≤ 9 ∧ c ≠ 0) ∧ cs.length = nv ∧ -1000 ≤ bd ∧ bd ≤ 1000

set_option maxRecDepth 100000 in
set_option maxHeartbeats 2000000 in
theorem l6Linear_any (x : Int) (A1 : Option Addr) (n1 p1 : Nat) (A2 : Option Addr) (n2 p2 : Nat) (z : Int) (A3 : Option Addr) (n3 p3 : Nat) (cs : List Int) (w : World) (hn1 : n1 ≤ maxLen) (h2 : QI 0 w (A2, n2, p2) cs) :
    Calls Try.prog 95 #[.agg #[.int .i64 x, .slice A1 n1 p1, .slice A2 n2 p2, .int .i64 z, .slice A3 n3 p3]] w (RetPr (LinOk n1 cs z) w) := by
  have HL : Hid (cs.length = n2) := h2.2.1.lenI
  have hn2 : n2 ≤ maxLen := h2.1
  have HS := Lib.hid h2
  clear h2
  unfold maxLen at hn1 hn2
  go_enter Try.func95, Try.ntmps95
  go_wp2_with fail
  go_loopw [3] (fun i wr => ∃ k : Nat, k ≤ n2 ∧ i = .int .i64 k ∧ Ext w wr ∧ Hid (Blk wr w.heap.size 91 #[.int .i64 x, .slice A1 n1 p1, .slice A2 n2 p2, .int .i64 z, .slice A3 n3 p3]) ∧ Hid (∀ (i : Nat) (c : Int), i < k → cs[i]? = some c → -9 ≤ c ∧ c ≤ 9 ∧ c ≠ 0)) (fun i _ => n2 - (intOf i).toNat)
  case atStart => exact ⟨0, Nat.zero_le _, rfl, (Ext.refl _).alloc _, Blk.new _ _ _, fun i v hi _ => absurd hi (by omega)⟩
  case round =>
    obtain ⟨k, hk, rfl, hE, hB, hR⟩ := hrel
    have b2 := hB.out.cell 2
    by_cases hlt : k < n2
    · obtain ⟨b, off, c, rfl, hx, c1⟩ := (HS.out.2.1.ext hE).int hlt
      have HX := Lib.hid hx
      clear hx
      by_cases hz1 : c < -9
      · have hF : Hid (¬ LinOk n1 cs z) := fun h => by have := h.1 k c HX.out; omega
        go_wp2
        go_ret
        exact RetPr.no hF.out hE
      by_cases hz2 : 9 < c
      · have hF : Hid (¬ LinOk n1 cs z) := fun h => by have := h.1 k c HX.out; omega
        go_wp2
        go_ret
        exact RetPr.no hF.out hE
      by_cases hz3 : c = 0
      · have hF : Hid (¬ LinOk n1 cs z) := fun h => by have := h.1 k c HX.out; omega
        subst hz3
        go_wp2
        go_ret
        exact RetPr.no hF.out hE
      have hb : (c == 0) = false := by simpa using hz3
      have hR2 : Hid (∀ (i : Nat) (v : Int), i < k + 1 → cs[i]? = some v → -9 ≤ v ∧ v ≤ 9 ∧ v ≠ 0) := fun i v hi hv => by
        rcases Nat.lt_or_ge i k with h | h
        · exact hR.out i v h hv
        · obtain rfl : i = k := by omega
          have := HX.out; rw [hv] at this; injection this with this; subst this; omega
      clear hz3
      go_wp2
      go_roundw
      case rel => exact ⟨k + 1, by omega, by go_num, hE, hB, hR2⟩
      case measure => simp [intOf]; omega
    · obtain rfl : k = n2 := by omega
      have b1 := hB.out.cell 1
      have b3 := hB.out.cell 3
      have hall : Hid (∀ (i : Nat) (c : Int), cs[i]? = some c → -9 ≤ c ∧ c ≤ 9 ∧ c ≠ 0) := fun i c hv => hR.out i c (by have := (List.getElem?_eq_some_iff.1 hv).1; have := HL.out; omega) hv
      by_cases he : k = n1
      · subst he
        by_cases ha : -1000 ≤ z
        · go_wp2
          go_ret
          refine ⟨_, rfl, ?_, hE⟩
          have hlen := HL.out
          constructor
          · intro h; exact ⟨hall.out, hlen, ha, by simpa using h⟩
          · intro h; have := h.2.2.2; simpa using this
        · have hF : Hid (¬ LinOk k cs z) := fun h => ha h.2.2.1
          go_wp2
          go_ret
          exact RetPr.no hF.out hE
      · have hb : ((k : Int) == (n1 : Int)) = false := by simp; omega
        have hF : Hid (¬ LinOk n1 cs z) := fun h => by have := h.2.1; have := HL.out; omega
        go_wp2
        go_ret
        exact RetPr.no hF.out hE

def TabOk (nv : Nat) (rows : List (List Int)) : Prop := (∀ (i : Nat) (r : List Int), rows[i]? = some r → r.length = nv ∧ ∀ (k : Nat) (x : Int), r[k]? = some x → 0 ≤ x ∧ x ≤ 3) ∧ rows.length ≤ 8

set_option maxRecDepth 100000 in
set_option maxHeartbeats 2000000 in
theorem l6Table_any (x : Int) (A1 : Option Addr) (n1 p1 : Nat) (A2 : Option Addr) (n2 p2 : Nat) (z : Int) (A3 : Option Addr) (n3 p3 : Nat) (rows : List (List Int)) (w : World) (hn1 : n1 ≤ maxLen) (h3 : QII 0 w (A3, n3, p3) rows) :
    Calls Try.prog 96 #[.agg #[.int .i64 x, .slice A1 n1 p1, .slice A2 n2 p2, .int .i64 z, .slice A3 n3 p3]] w (RetPr (TabOk n1 rows) w) := by
  have HL : Hid (rows.length = n3) := h3.len
  have hn3 : n3 ≤ maxLen := h3.1
  have HS := Lib.hid h3
  clear h3
  unfold maxLen at hn1 hn3
  go_enter Try.func96, Try.ntmps96
  go_wp2_with fail
  go_loopw [3] (fun i wr => ∃ k : Nat, k ≤ n3 ∧ i = .int .i64 k ∧ Ext w wr ∧ Hid (Blk wr w.heap.size 91 #[.int .i64 x, .slice A1 n1 p1, .slice A2 n2 p2, .int .i64 z, .slice A3 n3 p3]) ∧ Hid (∀ (i : Nat) (r : List Int), i < k → rows[i]? = some r → r.length = n1 ∧ ∀ (k : Nat) (x : Int), r[k]? = some x → 0 ≤ x ∧ x ≤ 3)) (fun i _ => n3 - (intOf i).toNat)
  case atStart => exact ⟨0, Nat.zero_le _, rfl, (Ext.refl _).alloc _, Blk.new _ _ _, fun i v hi _ => absurd hi (by omega)⟩
  case round =>
    obtain ⟨k, hk, rfl, hE, hB, hR⟩ := hrel
    have b1 := hB.out.cell 1
    have b4 := hB.out.cell 4
    by_cases hlt : k < n3
    · obtain ⟨b, off, B, m, q, r, rfl, hx, c1, hQ⟩ := (HS.out.ext hE).at_ hlt
      have HX := Lib.hid hx
      have HQ := Lib.hid hQ
      have HLr : Hid (r.length = m) := hQ.2.1.lenI
      have hm : m ≤ maxLen := hQ.1
      unfold maxLen at hm
      clear hx hQ
      have HC := Lib.hid c1
      by_cases he : m = n1
      · subst he
        go_wp2_with fail
        go_quiet (fail)
        clear b1 b4 c1
        go_wp2_with fail
        go_loopw [4] (fun i wr' => ∃ j : Nat, j ≤ m ∧ i = .int .i64 j ∧ Ext wr wr' ∧ Hid (∀ (i : Nat) (x : Int), i < j → r[i]? = some x → 0 ≤ x ∧ x ≤ 3)) (fun i _ => m - (intOf i).toNat)
        case atStart => exact ⟨0, Nat.zero_le _, rfl, (Ext.refl _).drewN _, fun i v hi _ => absurd hi (by omega)⟩
        case round =>
          obtain ⟨j, hj, rfl, hE2, hD2⟩ := hrel
          have b4 := (hB.out.ext hE2).cell 4
          have c1 := hE2.cell HC.out
          by_cases hjm : j < m
          · obtain ⟨b5, off5, x5, rfl, hx5, c5⟩ := (HQ.out.2.1.ext hE2).int hjm
            have HX5 := Lib.hid hx5
            clear hx5
            by_cases hz1 : x5 < 0
            · have hF : Hid (¬ TabOk m rows) := fun h => by have := (h.1 k r HX.out).2 j x5 HX5.out; omega
              go_wp2
              go_ret
              exact RetPr.no hF.out (hE.trans hE2)
            by_cases hz2 : 3 < x5
            · have hF : Hid (¬ TabOk m rows) := fun h => by have := (h.1 k r HX.out).2 j x5 HX5.out; omega
              go_wp2
              go_ret
              exact RetPr.no hF.out (hE.trans hE2)
            have hD3 : Hid (∀ (i : Nat) (v : Int), i < j + 1 → r[i]? = some v → 0 ≤ v ∧ v ≤ 3) := fun i v hi hv => by
              rcases Nat.lt_or_ge i j with h | h
              · exact hD2.out i v h hv
              · obtain rfl : i = j := by omega
                have := HX5.out; rw [hv] at this; injection this with this; subst this; omega
            go_wp2
            go_roundw
            case rel => exact ⟨j + 1, by omega, by go_num, hE2, hD3⟩
            case measure => simp [intOf]; omega
          · obtain rfl : j = m := by omega
            have hR2 : Hid (∀ (i : Nat) (r : List Int), i < k + 1 → rows[i]? = some r → r.length = j ∧ ∀ (k : Nat) (x : Int), r[k]? = some x → 0 ≤ x ∧ x ≤ 3) := fun i r' hi hv => by
              rcases Nat.lt_or_ge i k with h | h
              · exact hR.out i r' h hv
              · obtain rfl : i = k := by omega
                have := HX.out; rw [hv] at this; injection this with this; subst this
                exact ⟨HLr.out, fun k x hx => hD2.out k x (by have := (List.getElem?_eq_some_iff.1 hx).1; have := HLr.out; omega) hx⟩
            go_wp2
            go_roundw
            case rel => exact ⟨k + 1, by omega, by go_num, hE.trans hE2, hB.out.ext hE2, hR2⟩
            case measure => simp [intOf]; omega
      · have hb : ((m : Int) == (n1 : Int)) = false := by simp; omega
        have hF : Hid (¬ TabOk n1 rows) := fun h => by have := (h.1 k r HX.out).1; have := HLr.out; omega
        go_wp2_with fail
        go_quiet (fail)
        clear b1 b4 c1
        go_wp2
        go_ret
        exact RetPr.no hF.out (hE.drewN _)
    · obtain rfl : k = n3 := by omega
      have hall : Hid (∀ (i : Nat) (r : List Int), rows[i]? = some r → r.length = n1 ∧ ∀ (k : Nat) (x : Int), r[k]? = some x → 0 ≤ x ∧ x ≤ 3) := fun i r hv => hR.out i r (by have := (List.getElem?_eq_some_iff.1 hv).1; have := HL.out; omega) hv
      go_wp2
      go_ret
      refine ⟨_, rfl, ?_, hE⟩
      have hlen := HL.out
      constructor
      · intro h; exact ⟨hall.out, by simp at h; omega⟩
      · intro h; have := h.2; simp; omega
end Go.Proofs.Ytgoaggojbcdgeaa
