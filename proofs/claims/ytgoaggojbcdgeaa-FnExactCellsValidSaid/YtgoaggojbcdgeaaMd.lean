/- Rules and models in memory: QR, QRS; the law's own sizes and copies of them. -/
import Derived.Test.YtgoaggojbcdgeaaRIIe
namespace Go.Proofs.Ytgoaggojbcdgeaa
open Go.RowKit

/-- a rule: kind, variables, coefficients, bound, rows -/
abbrev Rl := Int × List Int × List Int × Int × List (List Int)
abbrev Hr := Hd × Hd × Hd
/-- a model: sizes, rules -/
abbrev Mo := List Int × List Rl
def encR : List Hr → List Rl → List Value
  | h :: hs, r :: rs => .int .i64 r.1 :: .slice h.1.1 h.1.2.1 h.1.2.2 :: .slice h.2.1.1 h.2.1.2.1 h.2.1.2.2 :: .int .i64 r.2.2.2.1 :: .slice h.2.2.1 h.2.2.2.1 h.2.2.2.2 :: encR hs rs
  | _, _ => []
theorem encR_len : ∀ (hs : List Hr) (rs : List Rl), hs.length = rs.length → (encR hs rs).length = rs.length * 5
  | [], [], _ => rfl
  | [], _ :: _, h => by simp at h
  | _ :: _, [], h => by simp at h
  | h :: hs, c :: cs, e => by
    have := encR_len hs cs (by simpa using e)
    simp only [encR, List.length_cons, this]; omega
theorem encR_get : ∀ (hs : List Hr) (rs : List Rl) (k : Nat) (h : Hr) (r : Rl), hs[k]? = some h → rs[k]? = some r →
    (encR hs rs)[k * 5]? = some (.int .i64 r.1) ∧ (encR hs rs)[k * 5 + 1]? = some (.slice h.1.1 h.1.2.1 h.1.2.2) ∧ (encR hs rs)[k * 5 + 2]? = some (.slice h.2.1.1 h.2.1.2.1 h.2.1.2.2) ∧ (encR hs rs)[k * 5 + 3]? = some (.int .i64 r.2.2.2.1) ∧ (encR hs rs)[k * 5 + 4]? = some (.slice h.2.2.1 h.2.2.2.1 h.2.2.2.2)
  | [], _, k, h, c, e, _ => by simp at e
  | _ :: _, [], k, h, c, _, e => by simp at e
  | x :: hs, y :: cs, 0, h, c, e1, e2 => by
    simp at e1 e2; subst e1; subst e2; exact ⟨rfl, rfl, rfl, rfl, rfl⟩
  | x :: hs, y :: cs, k + 1, h, c, e1, e2 => by
    have := encR_get hs cs k h c (by simpa using e1) (by simpa using e2)
    rw [show (k + 1) * 5 = k * 5 + 1 + 1 + 1 + 1 + 1 from by omega]
    exact this
theorem encR_snoc : ∀ (hs : List Hr) (rs : List Rl) (h : Hr) (r : Rl), hs.length = rs.length → encR (hs ++ [h]) (rs ++ [r]) = encR hs rs ++ [.int .i64 r.1] ++ [.slice h.1.1 h.1.2.1 h.1.2.2] ++ [.slice h.2.1.1 h.2.1.2.1 h.2.1.2.2] ++ [.int .i64 r.2.2.2.1] ++ [.slice h.2.2.1 h.2.2.2.1 h.2.2.2.2]
  | [], [], _, _, _ => rfl
  | [], _ :: _, _, _, h => by simp at h
  | _ :: _, [], _, _, h => by simp at h
  | x :: hs, y :: rs, h, r, e => by simp [encR, encR_snoc hs rs h r (by simpa using e)]

/-- a rule, over lo -/
def QR (lo : Nat) (w : World) (h : Hr) (r : Rl) : Prop := QI lo w h.1 r.2.1 ∧ QI lo w h.2.1 r.2.2.1 ∧ QII lo w h.2.2 r.2.2.2.2
theorem QR.kept {lo lo' hi' : Nat} {w w' : World} {h : Hr} {r : Rl} (q : QR lo w h r) (K : Kept lo' hi' w w') (hd : hi' ≤ lo) : QR lo w' h r := ⟨q.1.kept K hd, q.2.1.kept K hd, q.2.2.kept K hd⟩
theorem QR.ext {lo : Nat} {w w' : World} {h : Hr} {r : Rl} (q : QR lo w h r) (K : Ext w w') : QR lo w' h r := q.kept K (Nat.zero_le _)
theorem QR.wide {lo lo' : Nat} {w : World} {h : Hr} {r : Rl} (q : QR lo w h r) (hl : lo' ≤ lo) : QR lo' w h r := ⟨q.1.wide hl, q.2.1.wide hl, q.2.2.wide hl⟩

/-- a list of rules, over lo -/
def QRS (lo : Nat) (w : World) (h : Hd) (rs : List Rl) : Prop :=
  h.2.1 ≤ maxLen ∧ ∃ hs : List Hr, hs.length = rs.length ∧ Seg w 5 h.1 h.2.1 (encR hs rs) ∧ Lies lo w.heap.size h.1 h.2.1 ∧ InG QR lo w hs rs
theorem QRS.kept {lo lo' hi' : Nat} {w w' : World} {h : Hd} {r : List Rl} (q : QRS lo w h r) (K : Kept lo' hi' w w') (hd : hi' ≤ lo) : QRS lo w' h r := by
  obtain ⟨h1, hs, h2, h3, h4, h5⟩ := q
  exact ⟨h1, hs, h2, h3.kept h4 K (.inr hd), h4.wide (Nat.le_refl _) K.size, h5.imp fun a b q => q.kept K hd⟩
theorem QRS.ext {lo : Nat} {w w' : World} {h : Hd} {r : List Rl} (q : QRS lo w h r) (K : Ext w w') : QRS lo w' h r := q.kept K (Nat.zero_le _)
theorem QRS.wide {lo lo' : Nat} {w : World} {h : Hd} {r : List Rl} (q : QRS lo w h r) (hl : lo' ≤ lo) : QRS lo' w h r := by
  obtain ⟨h1, hs, h2, h3, h4, h5⟩ := q
  exact ⟨h1, hs, h2, h3, h4.wide hl (Nat.le_refl _), h5.imp fun a b q => q.wide hl⟩
theorem QRS.len {lo : Nat} {w : World} {h : Hd} {rs : List Rl} (q : QRS lo w h rs) : rs.length = h.2.1 := by
  obtain ⟨_, hs, h2, h3, _⟩ := q
  have := h3.1
  rw [encR_len _ _ h2] at this
  omega
theorem QRS.at_ {lo : Nat} {w : World} {A : Option Addr} {n cap k : Nat} {rs : List Rl} (q : QRS lo w (A, n, cap) rs) (hk : k < n) :
    ∃ b off x A1 n1 p1 v A2 n2 p2 c z A3 n3 p3 rows, A = some ⟨b, off, none⟩ ∧ rs[k]? = some (x, v, c, z, rows)
      ∧ w.cell? ⟨b, off + k * 5, none⟩ = some (.int .i64 x) ∧ w.cell? ⟨b, off + k * 5 + 1, none⟩ = some (.slice A1 n1 p1) ∧ w.cell? ⟨b, off + k * 5 + 2, none⟩ = some (.slice A2 n2 p2) ∧ w.cell? ⟨b, off + k * 5 + 3, none⟩ = some (.int .i64 z) ∧ w.cell? ⟨b, off + k * 5 + 4, none⟩ = some (.slice A3 n3 p3)
      ∧ QR lo w ((A1, n1, p1), (A2, n2, p2), (A3, n3, p3)) (x, v, c, z, rows) := by
  have hlen := q.len
  obtain ⟨_, hs, hl, hS, _, hi⟩ := q
  simp only at hlen hS
  obtain ⟨b, off, e, hc⟩ := hS.2 (by omega)
  have h1 : hs[k]? = some (hs[k]'(by omega)) := List.getElem?_eq_getElem _
  have h2 : rs[k]? = some (rs[k]'(by omega)) := List.getElem?_eq_getElem _
  have g := encR_get hs rs k _ _ h1 h2
  exact ⟨b, off, _, _, _, _, _, _, _, _, _, _, _, _, _, _, e, h2, hc _ _ g.1, hc _ _ g.2.1, hc _ _ g.2.2.1, hc _ _ g.2.2.2.1, hc _ _ g.2.2.2.2, hi k _ _ h1 h2⟩

def smR (r : Rl) : Prop := smI r.2.1 ∧ smI r.2.2.1 ∧ smII r.2.2.2.2
def smRS (rs : List Rl) : Prop := rs.length ≤ 1048576 ∧ ∀ (i : Nat) (r : Rl), rs[i]? = some r → smR r
def smM (m : Mo) : Prop := smI m.1 ∧ smRS m.2

set_option maxHeartbeats 1000000 in
theorem szRule_any (x : Int) (A1 : Option Addr) (n1 p1 : Nat) (v : List Int) (A2 : Option Addr) (n2 p2 : Nat) (c : List Int) (z : Int) (A3 : Option Addr) (n3 p3 : Nat) (rs : List (List Int)) (left : Int) (w : World) (h0 : -1 ≤ left) (h1 : left ≤ 1048576)
    (h : QR 0 w ((A1, n1, p1), (A2, n2, p2), (A3, n3, p3)) (x, v, c, z, rs)) :
    Calls Try.prog 90 #[.agg #[.int .i64 x, .slice A1 n1 p1, .slice A2 n2 p2, .int .i64 z, .slice A3 n3 p3], .int .i64 left] w (RetSz left (smR (x, v, c, z, rs)) w) := by
  have HQ := Lib.hid h
  clear h
  go_enter Try.func90, Try.ntmps90
  go_wp2_with fail
  refine (szIntS_any A1 n1 p1 v left _ (by omega) (by omega) (HQ.out.1.ext ((Ext.refl _).alloc _))).mono ?_
  rintro e w1 ⟨y1, rfl, hy0, hy1, hs1, hE1⟩
  have B := Blk.of1 hE1
  have HE1 := Lib.hid (((Ext.refl w).alloc _).trans hE1)
  have HS1 := Lib.hid hs1
  have b2 := B.cell 2
  have hlt := B.lt
  have HB := Lib.hid B
  clear B hE1 hs1
  by_cases hq1 : y1 < 0
  · go_wp2
    go_ret
    exact ⟨_, rfl, by omega, by omega, fun h => absurd h (by omega), HE1.out⟩
  go_wp2_with fail
  refine (szIntS_any A2 n2 p2 c y1 _ (by omega) (by omega) (HQ.out.2.1.ext HE1.out)).mono ?_
  rintro e w2 ⟨y2, rfl, hz0, hz1, hs2, hE2⟩
  have B2 := HB.out.ext hE2
  have HE2 := Lib.hid (HE1.out.trans hE2)
  have HS2 := Lib.hid hs2
  have b4 := B2.cell 4
  have hlt2 := B2.lt
  clear B2 hE2 hs2 b2 hlt HB
  by_cases hq2 : y2 < 0
  · go_wp2
    go_ret
    exact ⟨_, rfl, by omega, by omega, fun h => absurd h (by omega), HE2.out⟩
  go_wp2_with fail
  refine (szIntSS_any A3 n3 p3 rs y2 _ (by omega) (by omega) (HQ.out.2.2.ext HE2.out)).mono ?_
  rintro e w3 ⟨y3, rfl, hu0, hu1, hs3, hE3⟩
  have HE3 := Lib.hid (HE2.out.trans hE3)
  have HS3 := Lib.hid hs3
  clear hE3 hs3 b4 hlt2
  by_cases hq3 : y3 < 0
  · go_wp2
    go_ret
    exact ⟨_, rfl, by omega, by omega, fun h => absurd h (by omega), HE3.out⟩
  go_wp2
  go_ret
  exact ⟨_, rfl, by omega, by omega, fun h => ⟨HS1.out (by omega), HS2.out (by omega), HS3.out (by omega)⟩, HE3.out⟩

set_option maxHeartbeats 1000000 in
theorem szRuleS_any (A : Option Addr) (n cap : Nat) (rs : List Rl) (left : Int) (w : World) (h0 : -1 ≤ left) (h1 : left ≤ 1048576) (h : QRS 0 w (A, n, cap) rs) :
    Calls Try.prog 64 #[.slice A n cap, .int .i64 left] w (RetSz left (smRS rs) w) := by
  have hn : n ≤ maxLen := h.1
  have hl : rs.length = n := h.len
  unfold maxLen at hn
  have HL := Lib.hid hl
  clear hl
  by_cases hneg : left - (n : Int) < 0
  · clear h
    go_enter Try.func64, Try.ntmps64
    go_wp2
    go_ret
    exact ⟨_, rfl, by omega, by omega, fun h => absurd h (by omega), Ext.refl _⟩
  · go_enter Try.func64, Try.ntmps64
    go_wp2
    go_loopw [1, 5] (fun q i wr => ∃ (k : Nat) (z : Int), k ≤ n ∧ i = .int .i64 k ∧ q = .int .i64 z ∧ 0 ≤ z ∧ z ≤ left ∧ Ext w wr ∧ Hid (∀ (i : Nat) (r : Rl), i < k → rs[i]? = some r → smR r)) (fun _ i _ => n - (intOf i).toNat)
    case atStart => exact ⟨0, left - n, Nat.zero_le _, rfl, rfl, by omega, by omega, Ext.refl _, fun i r hi _ => absurd hi (by omega)⟩
    case round =>
      obtain ⟨k, z, hk, rfl, rfl, hz0, hz1, hE, hD⟩ := hrel
      by_cases hlt : k < n
      · obtain ⟨b, off, x, A1, n1, p1, v, A2, n2, p2, c, bd, A3, n3, p3, rows, rfl, hx, c0, c1, c2, c3, c4, hq⟩ := (h.ext hE).at_ hlt
        have HX := Lib.hid hx
        have HQ := Lib.hid hq
        clear hx h hq
        go_wp2_with fail
        refine (szRule_any x A1 n1 p1 v A2 n2 p2 c bd A3 n3 p3 rows z _ (by omega) (by omega) HQ.out).mono ?_
        rintro e w1 ⟨y, rfl, hy0, hy1, hy2, hE1⟩
        have HY := Lib.hid hy2
        have HE := Lib.hid (hE.trans hE1)
        clear hy2 hE1 c0 c1 c2 c3 c4 hE
        by_cases hq : y < 0
        · go_wp2
          go_ret
          exact ⟨_, rfl, by omega, by omega, fun h => absurd h (by omega), HE.out⟩
        · go_wp2
          go_roundw
          case rel =>
            refine ⟨k + 1, y, by omega, by go_num, rfl, by omega, by omega, HE.out, fun i r' hi hr => ?_⟩
            rcases Nat.lt_or_ge i k with hik | hik
            · exact hD.out i r' hik hr
            · obtain rfl : i = k := by omega
              have := HX.out
              rw [hr] at this; injection this with this; subst this
              exact HY.out (by omega)
          case measure => simp [intOf]; omega
      · obtain rfl : k = n := by omega
        clear h
        go_wp2
        go_ret
        refine ⟨_, rfl, by omega, by omega, fun _ => ⟨by rw [HL.out]; omega, fun i r hr => hD.out i r ?_ hr⟩, hE⟩
        have := List.getElem?_eq_some_iff.1 hr
        obtain ⟨h2, _⟩ := this
        rw [HL.out] at h2; exact h2

set_option maxHeartbeats 1000000 in
theorem szModel_any (A : Option Addr) (n cap : Nat) (v : List Int) (B : Option Addr) (m q : Nat) (rs : List Rl) (left : Int) (w : World) (h0 : -1 ≤ left) (h1 : left ≤ 1048576) (h : QI 0 w (A, n, cap) v) (h' : QRS 0 w (B, m, q) rs) :
    Calls Try.prog 28 #[.agg #[.slice A n cap, .slice B m q], .int .i64 left] w (RetSz left (smM (v, rs)) w) := by
  have HQ := Lib.hid h
  have HQ' := Lib.hid h'
  clear h h'
  go_enter Try.func28, Try.ntmps28
  go_wp2_with fail
  refine (szIntS_any A n cap v left _ (by omega) (by omega) (HQ.out.ext ((Ext.refl _).alloc _))).mono ?_
  rintro e w1 ⟨y1, rfl, hy0, hy1, hs1, hE1⟩
  have B := Blk.of1 hE1
  have HE1 := Lib.hid (((Ext.refl w).alloc _).trans hE1)
  have HS1 := Lib.hid hs1
  have b1 := B.cell 1
  have hlt := B.lt
  clear B hE1 hs1
  by_cases hq1 : y1 < 0
  · go_wp2
    go_ret
    exact ⟨_, rfl, by omega, by omega, fun h => absurd h (by omega), HE1.out⟩
  go_wp2_with fail
  refine (szRuleS_any _ m q rs y1 _ (by omega) (by omega) (HQ'.out.ext HE1.out)).mono ?_
  rintro e w2 ⟨y2, rfl, hz0, hz1, hs2, hE2⟩
  have HE2 := Lib.hid (HE1.out.trans hE2)
  have HS2 := Lib.hid hs2
  clear hE2 hs2 b1 hlt
  by_cases hq2 : y2 < 0
  · go_wp2
    go_ret
    exact ⟨_, rfl, by omega, by omega, fun h => absurd h (by omega), HE2.out⟩
  go_wp2
  go_ret
  exact ⟨_, rfl, by omega, by omega, fun h => ⟨HS1.out (by omega), HS2.out (by omega)⟩, HE2.out⟩
end Go.Proofs.Ytgoaggojbcdgeaa
