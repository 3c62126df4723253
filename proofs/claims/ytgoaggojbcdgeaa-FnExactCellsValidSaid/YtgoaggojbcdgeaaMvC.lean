/- The reference's l6Cells, CellsValid; the library's IndexFunc and ContainsFunc over lists of integers and over rules. -/
import Derived.Test.YtgoaggojbcdgeaaMv2
import Derived.Test.YtgoaggojbcdgeaaInts
import Derived.Shelf.Abstract
namespace Go.Proofs.Ytgoaggojbcdgeaa
open Go.RowKit
set_option linter.unusedVariables false

/-- an index: a place at which P holds, or -1 -/
def RetIx {α : Type} (P : α → Prop) (xs : List α) (w : World) (e : Ending) (w' : World) : Prop :=
  ∃ i : Int, e = .returned (.int .i64 i) ∧ (0 ≤ i ↔ ∃ (j : Nat) (x : α), xs[j]? = some x ∧ P x) ∧ Ext w w'
set_option maxRecDepth 100000 in
set_option maxHeartbeats 1000000 in
theorem indexFuncII_any (g : Nat) (X : Array Value) (P : List Int → Prop) (rs : List (List Int)) (w : World) (eg : ∀ args w, (callFunc g args).run Try.prog w = .ok (.enter g args) w)
    (hp : ∀ (A : Option Addr) (n cap : Nat) (r : List Int) (W : World), QI 0 W (A, n, cap) r → Ext w W → Calls Try.prog g (#[.slice A n cap] ++ X) W (RetPr (P r) W))
    (A : Option Addr) (n cap : Nat) (h : QII 0 w (A, n, cap) rs) :
    Calls Try.prog 124 #[.slice A n cap, .func (.func g) #[] X] w (RetIx P rs w) := by
  have HL : Hid (rs.length = n) := h.len
  have hn : n ≤ maxLen := h.1
  have HP := Lib.hid hp
  have HS := Lib.hid h
  clear hp h
  unfold maxLen at hn
  go_enter Try.func124, Try.ntmps124
  go_wp2_with fail
  go_loopw [8] (fun i wr => ∃ (k : Nat), k ≤ n ∧ i = .int .i64 k ∧ Ext w wr ∧ Hid (∀ (j : Nat) (r : List Int), j < k → rs[j]? = some r → ¬ P r)) (fun i _ => n - (intOf i).toNat)
  case atStart => exact ⟨0, Nat.zero_le _, rfl, Ext.refl _, fun j u hj => absurd hj (by omega)⟩
  case round =>
    obtain ⟨k, hk, rfl, hE, hD⟩ := hrel
    by_cases hlt : k < n
    · obtain ⟨b, off, A', n', cap', r, rfl, hx, c1, hq⟩ := (HS.out.ext hE).at_ hlt
      have HX := Lib.hid hx
      clear hx
      go_wp2_with fail
      refine (HP.out A' n' cap' r _ hq hE).mono ?_
      rintro e w1 ⟨b1, rfl, hb, hE1⟩
      have HB := Lib.hid hb
      have HE1 := Lib.hid (hE.trans hE1)
      clear hb hq hE1 c1
      cases b1
      · have hD2 : Hid (∀ (j : Nat) (r : List Int), j < k + 1 → rs[j]? = some r → ¬ P r) := fun j r' hj hv => by
          rcases Nat.lt_or_ge j k with h | h
          · exact hD.out j r' h hv
          · obtain rfl : j = k := by omega
            have := HX.out; rw [hv] at this; injection this with this; subst this
            intro hpr; have := HB.out.2 hpr; cases this
        go_wp2
        go_roundw
        case rel => exact ⟨k + 1, by omega, by go_num, HE1.out, hD2⟩
        case measure => simp [intOf]; omega
      · go_wp2
        go_ret
        exact ⟨_, rfl, ⟨fun _ => ⟨k, r, HX.out, HB.out.1 (by simp)⟩, fun _ => by omega⟩, HE1.out⟩
    · obtain rfl : k = n := by omega
      go_wp2
      go_ret
      refine ⟨_, rfl, ⟨fun h => absurd h (by omega), fun ⟨j, r, hv, hp⟩ => absurd hp (hD.out j r (by have := (List.getElem?_eq_some_iff.1 hv).1; have := HL.out; omega) hv)⟩, hE⟩

set_option maxHeartbeats 1000000 in
theorem containsFuncII_any (g : Nat) (X : Array Value) (P : List Int → Prop) (rs : List (List Int)) (w : World) (eg : ∀ args w, (callFunc g args).run Try.prog w = .ok (.enter g args) w)
    (hp : ∀ (A : Option Addr) (n cap : Nat) (r : List Int) (W : World), QI 0 W (A, n, cap) r → Ext w W → Calls Try.prog g (#[.slice A n cap] ++ X) W (RetPr (P r) W))
    (A : Option Addr) (n cap : Nat) (h : QII 0 w (A, n, cap) rs) :
    Calls Try.prog 100 #[.slice A n cap, .func (.func g) #[] X] w (RetPr (∃ (j : Nat) (x : List Int), rs[j]? = some x ∧ P x) w) := by
  have HI := Lib.hid (indexFuncII_any g X P rs w eg hp A n cap h)
  clear hp h eg
  go_enter Try.func100, Try.ntmps100
  go_wp2_with fail
  refine HI.out.mono ?_
  rintro e w1 ⟨i, rfl, hi, hE1⟩
  have HJ := Lib.hid hi
  clear hi
  go_wp2
  go_ret
  exact ⟨_, rfl, by rw [← HJ.out]; simp, hE1⟩

set_option maxRecDepth 100000 in
set_option maxHeartbeats 1000000 in
theorem indexFuncR_any (g : Nat) (X : Array Value) (P : Rl → Prop) (rs : List Rl) (w : World) (eg : ∀ args w, (callFunc g args).run Try.prog w = .ok (.enter g args) w)
    (hp : ∀ (x : Int) (A1 : Option Addr) (n1 p1 : Nat) (vs : List Int) (A2 : Option Addr) (n2 p2 : Nat) (cs : List Int) (z : Int) (A3 : Option Addr) (n3 p3 : Nat) (rows : List (List Int)) (W : World), QR 0 W ((A1, n1, p1), (A2, n2, p2), (A3, n3, p3)) (x, vs, cs, z, rows) → Ext w W →
      Calls Try.prog g (#[.agg #[.int .i64 x, .slice A1 n1 p1, .slice A2 n2 p2, .int .i64 z, .slice A3 n3 p3]] ++ X) W (RetPr (P (x, vs, cs, z, rows)) W))
    (A : Option Addr) (n cap : Nat) (h : QRS 0 w (A, n, cap) rs) :
    Calls Try.prog 97 #[.slice A n cap, .func (.func g) #[] X] w (RetIx P rs w) := by
  have HL : Hid (rs.length = n) := h.len
  have hn : n ≤ maxLen := h.1
  have HP := Lib.hid hp
  have HS := Lib.hid h
  clear hp h
  unfold maxLen at hn
  go_enter Try.func97, Try.ntmps97
  go_wp2_with fail
  go_loopw [8] (fun i wr => ∃ (k : Nat), k ≤ n ∧ i = .int .i64 k ∧ Ext w wr ∧ Hid (∀ (j : Nat) (r : Rl), j < k → rs[j]? = some r → ¬ P r)) (fun i _ => n - (intOf i).toNat)
  case atStart => exact ⟨0, Nat.zero_le _, rfl, Ext.refl _, fun j u hj => absurd hj (by omega)⟩
  case round =>
    obtain ⟨k, hk, rfl, hE, hD⟩ := hrel
    by_cases hlt : k < n
    · obtain ⟨b, off, x, A1, n1, p1, vs, A2, n2, p2, cs, z, A3, n3, p3, rows, rfl, hx, c0, c1, c2, c3, c4, hq⟩ := (HS.out.ext hE).at_ hlt
      have HX := Lib.hid hx
      have HQ := Lib.hid hq
      clear hx hq
      go_wp2_with fail
      refine (HP.out x A1 n1 p1 vs A2 n2 p2 cs z A3 n3 p3 rows _ HQ.out hE).mono ?_
      rintro e w1 ⟨b1, rfl, hb, hE1⟩
      have HB := Lib.hid hb
      have HE1 := Lib.hid (hE.trans hE1)
      clear hb hE1 c0 c1 c2 c3 c4
      cases b1
      · have hD2 : Hid (∀ (j : Nat) (r : Rl), j < k + 1 → rs[j]? = some r → ¬ P r) := fun j r' hj hv => by
          rcases Nat.lt_or_ge j k with h | h
          · exact hD.out j r' h hv
          · obtain rfl : j = k := by omega
            have := HX.out; rw [hv] at this; injection this with this; subst this
            intro hpr; have := HB.out.2 hpr; cases this
        go_wp2
        go_roundw
        case rel => exact ⟨k + 1, by omega, by go_num, HE1.out, hD2⟩
        case measure => simp [intOf]; omega
      · go_wp2
        go_ret
        exact ⟨_, rfl, ⟨fun _ => ⟨k, _, HX.out, HB.out.1 (by simp)⟩, fun _ => by omega⟩, HE1.out⟩
    · obtain rfl : k = n := by omega
      go_wp2
      go_ret
      refine ⟨_, rfl, ⟨fun h => absurd h (by omega), fun ⟨j, r, hv, hp⟩ => absurd hp (hD.out j r (by have := (List.getElem?_eq_some_iff.1 hv).1; have := HL.out; omega) hv)⟩, hE⟩

set_option maxHeartbeats 1000000 in
theorem containsFuncR_any (g : Nat) (X : Array Value) (P : Rl → Prop) (rs : List Rl) (w : World) (eg : ∀ args w, (callFunc g args).run Try.prog w = .ok (.enter g args) w)
    (hp : ∀ (x : Int) (A1 : Option Addr) (n1 p1 : Nat) (vs : List Int) (A2 : Option Addr) (n2 p2 : Nat) (cs : List Int) (z : Int) (A3 : Option Addr) (n3 p3 : Nat) (rows : List (List Int)) (W : World), QR 0 W ((A1, n1, p1), (A2, n2, p2), (A3, n3, p3)) (x, vs, cs, z, rows) → Ext w W →
      Calls Try.prog g (#[.agg #[.int .i64 x, .slice A1 n1 p1, .slice A2 n2 p2, .int .i64 z, .slice A3 n3 p3]] ++ X) W (RetPr (P (x, vs, cs, z, rows)) W))
    (A : Option Addr) (n cap : Nat) (h : QRS 0 w (A, n, cap) rs) :
    Calls Try.prog 74 #[.slice A n cap, .func (.func g) #[] X] w (RetPr (∃ (j : Nat) (x : Rl), rs[j]? = some x ∧ P x) w) := by
  have HI := Lib.hid (indexFuncR_any g X P rs w eg hp A n cap h)
  clear hp h eg
  go_enter Try.func74, Try.ntmps74
  go_wp2_with fail
  refine HI.out.mono ?_
  rintro e w1 ⟨i, rfl, hi, hE1⟩
  have HJ := Lib.hid hi
  clear hi
  go_wp2
  go_ret
  exact ⟨_, rfl, by rw [← HJ.out]; simp, hE1⟩
end Go.Proofs.Ytgoaggojbcdgeaa
