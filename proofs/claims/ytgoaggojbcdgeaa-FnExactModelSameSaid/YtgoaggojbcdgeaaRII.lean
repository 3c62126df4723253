/- Lists of lists of integers in memory: QI, QII; the law's own sizes, copies and comparisons of them. -/
import Derived.Test.YtgoaggojbcdgeaaIntS
import Derived.Test.YtgoaggojbcdgeaaProb
namespace Go.Proofs.Ytgoaggojbcdgeaa
open Go.RowKit

/-- headers and what lies under them, one by one -/
def InG {η α : Type} (Q : Nat → World → η → α → Prop) (lo : Nat) (w : World) (hs : List η) (xs : List α) : Prop :=
  ∀ (i : Nat) (h : η) (x : α), hs[i]? = some h → xs[i]? = some x → Q lo w h x
theorem InG.imp {η α : Type} {Q : Nat → World → η → α → Prop} {lo lo' : Nat} {w w' : World} {hs : List η} {xs : List α} (h : InG Q lo w hs xs) (f : ∀ a b, Q lo w a b → Q lo' w' a b) : InG Q lo' w' hs xs :=
  fun i a b h1 h2 => f a b (h i a b h1 h2)
theorem InG.snoc {η α : Type} {Q : Nat → World → η → α → Prop} {lo : Nat} {w : World} {hs : List η} {xs : List α} {k : Nat} {a : η} {x : α} (h : InG Q lo w hs xs) (hk : hs.length = k) (hc : xs[k]? = some x) (hq : Q lo w a x) : InG Q lo w (hs ++ [a]) xs := by
  intro i b c h1 h2
  rcases Nat.lt_or_ge i k with hlt | hge
  · rw [List.getElem?_append_left (by omega)] at h1
    exact h i b c h1 h2
  · rw [List.getElem?_append_right (by omega)] at h1
    rcases Nat.eq_zero_or_pos (i - hs.length) with h0 | h0
    · rw [h0] at h1
      simp at h1
      subst h1
      obtain rfl : i = k := by omega
      rw [hc] at h2; injection h2 with h2; subst h2
      exact hq
    · rw [List.getElem?_eq_none (by simp; omega)] at h1; cases h1

/-- a list of integers, over lo -/
def QI (lo : Nat) (w : World) (h : Hd) (r : List Int) : Prop := h.2.1 ≤ maxLen ∧ Seg w 1 h.1 h.2.1 (encI r) ∧ Lies lo w.heap.size h.1 h.2.1 ∧ h.2.1 ≤ h.2.2
theorem QI.kept {lo lo' hi' : Nat} {w w' : World} {h : Hd} {r : List Int} (q : QI lo w h r) (K : Kept lo' hi' w w') (hd : hi' ≤ lo) : QI lo w' h r :=
  ⟨q.1, q.2.1.kept q.2.2.1 K (.inr hd), q.2.2.1.wide (Nat.le_refl _) K.size, q.2.2.2⟩
theorem QI.ext {lo : Nat} {w w' : World} {h : Hd} {r : List Int} (q : QI lo w h r) (K : Ext w w') : QI lo w' h r := q.kept K (Nat.zero_le _)
theorem QI.wide {lo lo' : Nat} {w : World} {h : Hd} {r : List Int} (q : QI lo w h r) (hl : lo' ≤ lo) : QI lo' w h r := ⟨q.1, q.2.1, q.2.2.1.wide hl (Nat.le_refl _), q.2.2.2⟩
theorem QI.of {w : World} {A : Option Addr} {n cap : Nat} {r : List Int} (hn : n ≤ maxLen) (hc : n ≤ cap) (h : Seg w 1 A n (encI r)) : QI 0 w (A, n, cap) r := ⟨hn, h, h.old, hc⟩

def encG (hs : List Hd) : List Value := hs.map fun h => .slice h.1 h.2.1 h.2.2
theorem encG_len (hs : List Hd) : (encG hs).length = hs.length := by simp [encG]
theorem encG_snoc (hs : List Hd) (h : Hd) : encG (hs ++ [h]) = encG hs ++ [.slice h.1 h.2.1 h.2.2] := by simp [encG]

/-- a list of lists of integers, over lo -/
def QII (lo : Nat) (w : World) (h : Hd) (rs : List (List Int)) : Prop :=
  h.2.1 ≤ maxLen ∧ ∃ hs : List Hd, hs.length = rs.length ∧ Seg w 1 h.1 h.2.1 (encG hs) ∧ Lies lo w.heap.size h.1 h.2.1 ∧ InG QI lo w hs rs
theorem QII.kept {lo lo' hi' : Nat} {w w' : World} {h : Hd} {r : List (List Int)} (q : QII lo w h r) (K : Kept lo' hi' w w') (hd : hi' ≤ lo) : QII lo w' h r := by
  obtain ⟨h1, hs, h2, h3, h4, h5⟩ := q
  exact ⟨h1, hs, h2, h3.kept h4 K (.inr hd), h4.wide (Nat.le_refl _) K.size, h5.imp fun a b q => q.kept K hd⟩
theorem QII.ext {lo : Nat} {w w' : World} {h : Hd} {r : List (List Int)} (q : QII lo w h r) (K : Ext w w') : QII lo w' h r := q.kept K (Nat.zero_le _)
theorem QII.wide {lo lo' : Nat} {w : World} {h : Hd} {r : List (List Int)} (q : QII lo w h r) (hl : lo' ≤ lo) : QII lo' w h r := by
  obtain ⟨h1, hs, h2, h3, h4, h5⟩ := q
  exact ⟨h1, hs, h2, h3, h4.wide hl (Nat.le_refl _), h5.imp fun a b q => q.wide hl⟩
theorem QII.len {lo : Nat} {w : World} {h : Hd} {rs : List (List Int)} (q : QII lo w h rs) : rs.length = h.2.1 := by
  obtain ⟨_, hs, h2, h3, _⟩ := q
  have := h3.1
  rw [encG_len] at this
  omega
theorem QII.at_ {lo : Nat} {w : World} {A : Option Addr} {n cap k : Nat} {rs : List (List Int)} (q : QII lo w (A, n, cap) rs) (hk : k < n) :
    ∃ b off A' n' cap' r, A = some ⟨b, off, none⟩ ∧ rs[k]? = some r ∧ w.cell? ⟨b, off + k, none⟩ = some (.slice A' n' cap') ∧ QI lo w (A', n', cap') r := by
  have hlen := q.len
  obtain ⟨_, hs, hl, hS, _, hi⟩ := q
  simp only at hlen hS
  obtain ⟨b, off, e, hc⟩ := hS.2 (by omega)
  have h1 : hs[k]? = some (hs[k]'(by omega)) := List.getElem?_eq_getElem _
  have h2 : rs[k]? = some (rs[k]'(by omega)) := List.getElem?_eq_getElem _
  have g : (encG hs)[k]? = some (.slice (hs[k]'(by omega)).1 (hs[k]'(by omega)).2.1 (hs[k]'(by omega)).2.2) := by unfold encG; rw [List.getElem?_map, h1]; rfl
  exact ⟨b, off, _, _, _, _, e, h2, hc _ _ g, hi k _ _ h1 h2⟩

def smI (r : List Int) : Prop := r.length ≤ 1048576
def smII (rs : List (List Int)) : Prop := rs.length ≤ 1048576 ∧ ∀ (i : Nat) (r : List Int), rs[i]? = some r → smI r
/-- a size that is left -/
def RetSz (left : Int) (S : Prop) (w : World) (e : Ending) (w' : World) : Prop := ∃ z : Int, e = .returned (.int .i64 z) ∧ -1 ≤ z ∧ z ≤ left ∧ (0 ≤ z → S) ∧ Ext w w'
def iiEq (xs ys : List (List Int)) : Bool := decide (xs = ys)
theorem iiEq_self (xs : List (List Int)) : iiEq xs xs = true := by simp [iiEq]

set_option maxHeartbeats 1000000 in
theorem szIntS_any (A : Option Addr) (n cap : Nat) (r : List Int) (left : Int) (w : World) (h0 : -1 ≤ left) (h1 : left ≤ 1048576) (h : QI 0 w (A, n, cap) r) :
    Calls Try.prog 63 #[.slice A n cap, .int .i64 left] w (RetSz left (smI r) w) := by
  have hn : n ≤ maxLen := h.1
  have hl := h.2.1.lenI
  simp only at hl
  unfold maxLen at hn
  clear h
  by_cases hneg : left - (n : Int) < 0
  · go_enter Try.func63, Try.ntmps63
    go_wp2
    go_ret
    exact ⟨_, rfl, by omega, by omega, fun h => absurd h (by omega), Ext.refl _⟩
  · go_enter Try.func63, Try.ntmps63
    go_wp2
    go_ret
    exact ⟨_, rfl, by omega, by omega, fun _ => by unfold smI; omega, Ext.refl _⟩

set_option maxHeartbeats 1000000 in
theorem szIntSS_any (A : Option Addr) (n cap : Nat) (rs : List (List Int)) (left : Int) (w : World) (h0 : -1 ≤ left) (h1 : left ≤ 1048576) (h : QII 0 w (A, n, cap) rs) :
    Calls Try.prog 120 #[.slice A n cap, .int .i64 left] w (RetSz left (smII rs) w) := by
  have hn : n ≤ maxLen := h.1
  have hl : rs.length = n := h.len
  unfold maxLen at hn
  have HL := Lib.hid hl
  clear hl
  by_cases hneg : left - (n : Int) < 0
  · clear h
    go_enter Try.func120, Try.ntmps120
    go_wp2
    go_ret
    exact ⟨_, rfl, by omega, by omega, fun h => absurd h (by omega), Ext.refl _⟩
  · go_enter Try.func120, Try.ntmps120
    go_wp2
    go_loopw [1, 5] (fun q i wr => ∃ (k : Nat) (z : Int), k ≤ n ∧ i = .int .i64 k ∧ q = .int .i64 z ∧ 0 ≤ z ∧ z ≤ left ∧ Ext w wr ∧ Hid (∀ (i : Nat) (r : List Int), i < k → rs[i]? = some r → smI r)) (fun _ i _ => n - (intOf i).toNat)
    case atStart => exact ⟨0, left - n, Nat.zero_le _, rfl, rfl, by omega, by omega, Ext.refl _, fun i r hi _ => absurd hi (by omega)⟩
    case round =>
      obtain ⟨k, z, hk, rfl, rfl, hz0, hz1, hE, hD⟩ := hrel
      by_cases hlt : k < n
      · obtain ⟨b, off, A', n', cap', r, rfl, hx, c1, hq⟩ := (h.ext hE).at_ hlt
        have HX := Lib.hid hx
        have HQ := Lib.hid hq
        clear hx h hq
        go_wp2_with fail
        refine (szIntS_any A' n' cap' r z _ (by omega) (by omega) HQ.out).mono ?_
        rintro e w1 ⟨y, rfl, hy0, hy1, hy2, hE1⟩
        have HY := Lib.hid hy2
        have HE := Lib.hid (hE.trans hE1)
        clear hy2 hE1 c1 hE
        by_cases hq : y < 0
        · go_wp2
          go_ret
          exact ⟨_, rfl, by omega, by omega, fun h => absurd h (by omega), HE.out⟩
        · go_wp2
          go_roundw
          case rel =>
            refine ⟨k + 1, y, by omega, by go_num, rfl, by omega, by omega, HE.out, fun i r' hi hr => ?_⟩
            rcases Nat.lt_or_ge i k with hik | hik
            · exact hD.out i r' hik hr
            · obtain rfl : i = k := by omega
              have := HX.out
              rw [hr] at this; injection this with this; subst this
              exact HY.out (by omega)
          case measure => simp [intOf]; omega
      · obtain rfl : k = n := by omega
        clear h
        go_wp2
        go_ret
        refine ⟨_, rfl, by omega, by omega, fun _ => ⟨by rw [HL.out]; omega, fun i r hr => hD.out i r ?_ hr⟩, hE⟩
        have := List.getElem?_eq_some_iff.1 hr
        obtain ⟨h2, _⟩ := this
        rw [HL.out] at h2; exact h2

/-- a copy of a list of integers, its place told too -/
def RetIntC (xs : List Int) (w : World) (e : Ending) (w' : World) : Prop :=
  ∃ A n cap, e = .returned (.slice A n cap) ∧ xs.length = n ∧ n ≤ cap ∧ Got w w' 1 A n (encI xs) ∧ Ext w w'
set_option maxHeartbeats 1000000 in
theorem toIntSc_any (A : Option Addr) (n cap : Nat) (ts : List Int) (w : World) (hn : n ≤ 1048576) (h : Seg w 1 A n (encI ts)) :
    Calls Try.prog 11 #[.slice A n cap] w fun e w' => RetIntC ts w e w' := by
  obtain ⟨i0, hi, hz0, hz1, hz2⟩ := info_parts Try.infoInt
  have hmk := run_make (P := Try.prog) w 22 3 i0 _ Try.underlying22 hi hz0 .i64 .i64 (n : Int) (n : Int) (by omega) (by omega) (by rw [hz2]; omega) (by omega)
  rw [hz1, toNat_cast] at hmk
  have hsz := size_madeCells (Value.cells (.int .i64 0)) (n * 1)
  generalize madeCells (Value.cells (.int .i64 0)) (n * 1) = made at hmk hsz
  have hl := h.lenI
  have HR0 := Row.new w 3 made
  rw [hsz] at HR0
  clear hi hz0 hz1 hz2 hsz
  have HL := Lib.hid hl; clear hl
  go_enter Try.func11, Try.ntmps11
  go_wp2
  clear hmk
  go_loopw [4] (fun i wr => ∃ k : Nat, k ≤ n ∧ i = .int .i64 k ∧ Ext w wr ∧ Hid (∃ cur, Row wr w.heap.size 3 (n * 1) (encI (ts.take k)) cur)) (fun i _ => n - (intOf i).toNat)
  case atStart => exact ⟨0, Nat.zero_le _, rfl, (Ext.refl _).alloc _, ⟨made, HR0⟩⟩
  case round =>
    obtain ⟨k, hk, rfl, hE, hR⟩ := hrel
    by_cases hlt : k < n
    · obtain ⟨b, off, z, rfl, hx, c1⟩ := (h.ext hE).int hlt
      have HX := Lib.hid hx
      obtain ⟨cur, R1⟩ := hR.out
      have hle : (encI (ts.take k)).length = k := by rw [encI_len, List.length_take, HL.out]; omega
      obtain ⟨o1, d1⟩ := R1.cell (i := k) (by omega)
      have f1 := R1.frozen k
      have R2 := R1.push (i := k) (by omega) (by omega) (.int .i64 z)
      have HR2 := Lib.hid R2
      clear hx hR h HR0 R1 R2 hle
      go_wp2
      go_roundw
      case rel =>
        refine ⟨k + 1, by omega, by go_num, hE.setNew (Nat.le_refl _) _, ?_⟩
        rw [take_of_get _ _ _ HX.out, encI_snoc]
        exact ⟨_, HR2.out⟩
      case measure => simp [intOf]; omega
    · obtain rfl : k = n := by omega
      have HS := Lib.hid hR.out
      clear hR h HR0
      go_wp2
      go_ret
      obtain ⟨cur, R⟩ := HS.out
      rw [List.take_of_length_le (by rw [HL.out]; omega)] at R
      exact ⟨_, _, _, rfl, HL.out, Nat.le_refl _, R.got (by rw [encI_len, HL.out]; omega) (Nat.le_refl _), hE⟩

theorem Try.infoII : (Try.prog.info? 22).map (fun i => (i.zero, i.size, i.bytes)) = some (some (.slice none 0 0), 1, 24) := by kernel_rfl
/-- a copy of a list of lists -/
def RetII (rs : List (List Int)) (w : World) (e : Ending) (w' : World) : Prop :=
  ∃ A n cap, e = .returned (.slice A n cap) ∧ QII w.heap.size w' (A, n, cap) rs ∧ Ext w w'
set_option maxRecDepth 100000 in
set_option maxHeartbeats 2000000 in
theorem toIntSS_any (A : Option Addr) (n cap : Nat) (rs : List (List Int)) (w : World) (hsm : smII rs) (h : QII 0 w (A, n, cap) rs) :
    Calls Try.prog 121 #[.slice A n cap] w (RetII rs w) := by
  have hl : rs.length = n := h.len
  have hn : n ≤ 1048576 := by rw [← hl]; exact hsm.1
  obtain ⟨i0, hi, hz0, hz1, hz2⟩ := info_parts Try.infoII
  have hmk := run_make (P := Try.prog) w 89 22 i0 _ Try.underlying89 hi hz0 .i64 .i64 (n : Int) (n : Int) (by omega) (by omega) (by rw [hz2]; omega) (by omega)
  rw [hz1, toNat_cast] at hmk
  have hsz := size_madeCells (Value.slice none 0 0).cells (n * 1)
  generalize madeCells (Value.slice none 0 0).cells (n * 1) = made at hmk hsz
  have HR0 := Row.new w 22 made
  rw [hsz] at HR0
  clear hi hz0 hz1 hz2 hsz
  have HL := Lib.hid hl; clear hl
  have HSM := Lib.hid hsm; clear hsm
  go_enter Try.func121, Try.ntmps121
  go_wp2
  clear hmk
  go_loopw [4] (fun i wr => ∃ k : Nat, k ≤ n ∧ i = .int .i64 k ∧ Ext w wr ∧ Hid (∃ cur hs, Row wr w.heap.size 22 (n * 1) (encG hs) cur ∧ hs.length = k ∧ InG QI (w.heap.size + 1) wr hs rs)) (fun i _ => n - (intOf i).toNat)
  case atStart => exact ⟨0, Nat.zero_le _, rfl, (Ext.refl _).alloc _, ⟨made, [], HR0, rfl, fun i x c h1 _ => by simp at h1⟩⟩
  case round =>
    obtain ⟨k, hk, rfl, hE, hR⟩ := hrel
    by_cases hlt : k < n
    · obtain ⟨b, off, A', n', cap', r, rfl, hx, c1, hq⟩ := (h.ext hE).at_ hlt
      have hlr : r.length = n' := hq.2.1.lenI
      have hn2 : n' ≤ 1048576 := by rw [← hlr]; exact HSM.out.2 k r hx
      have HX := Lib.hid hx
      have HQ := Lib.hid hq
      clear hx h HR0 hq hlr
      obtain ⟨cur, hs, R, hlh, I⟩ := hR.out
      have HR' := Lib.hid R
      have HI' := Lib.hid I
      have hwr := R.blk.lt
      clear R I hR
      go_wp2_with fail
      refine (toIntSc_any A' n' cap' r _ hn2 HQ.out.2.1).mono ?_
      rintro e w1 ⟨A1, n1, cap1, rfl, hl1, hcc, hG1, hE1⟩
      have hlr2 : r.length = n' := HQ.out.2.1.lenI
      have hn3 : n1 ≤ maxLen := by rw [← hl1, hlr2]; unfold maxLen; omega
      have R1 := HR'.out.ext hE1
      have hle : (encG hs).length = k := by rw [encG_len, hlh]
      have f0 := R1.frozen k
      obtain ⟨o0, d0⟩ := R1.cell (i := k) (by omega)
      have R2 := R1.push (i := k) (by omega) (by omega) (.slice A1 n1 cap1)
      have K2 : Kept w.heap.size (w.heap.size + 1) w1 _ := (Kept.refl _ _ w1).setIn (p := ⟨w.heap.size, k, none⟩) (by simp) (.slice A1 n1 cap1)
      have I1 := (HI'.out.imp fun a b q => q.ext hE1).snoc hlh (a := (A1, n1, cap1)) HX.out ⟨hn3, hG1.seg, hG1.lies.wide (by omega) (Nat.le_refl _), hcc⟩
      have I2 := I1.imp fun a b q => q.kept K2 (Nat.le_refl _)
      have HR2 := Lib.hid R2
      have HI2 := Lib.hid I2
      have HKE := Lib.hid ((hE.trans hE1).fresh K2 (Nat.le_refl _))
      have HLH := Lib.hid hlh
      clear R2 R1 HR' hle I1 I2 K2 hl1 hG1 HQ HI' hlh hcc
      go_wp2
      go_roundw
      case rel =>
        refine ⟨k + 1, by omega, by go_num, HKE.out, ?_⟩
        have q := HR2.out
        rw [← encG_snoc hs (A1, n1, cap1)] at q
        exact ⟨_, _, q, by simp [HLH.out], HI2.out⟩
      case measure => simp [intOf]; omega
    · obtain rfl : k = n := by omega
      have HS := Lib.hid hR.out
      clear hR h HR0
      go_wp2
      go_ret
      obtain ⟨cur, hs, R, hlh, I⟩ := HS.out
      have hle : (encG hs).length = k * 1 := by rw [encG_len, hlh]; omega
      have G := R.got (w0 := w) (sz := 1) (n := k) hle (Nat.le_refl _)
      exact ⟨_, _, _, rfl, ⟨by show k ≤ maxLen; unfold maxLen; omega, hs, by rw [hlh, HL.out], G.seg, G.lies, I.imp fun a b q => q.wide (by omega)⟩, hE⟩

set_option maxRecDepth 100000 in
set_option maxHeartbeats 4000000 in
theorem eqIntSS_any (A : Option Addr) (n cap : Nat) (ts : List (List Int)) (A' : Option Addr) (n' cap' : Nat) (us : List (List Int)) (w : World) (h : QII 0 w (A, n, cap) ts) (h' : QII 0 w (A', n', cap') us) :
    Calls Try.prog 122 #[.slice A n cap, .slice A' n' cap'] w fun e w' => e = .returned (.bool (iiEq ts us)) ∧ Ext w w' := by
  have hl : ts.length = n := h.len
  have hl' : us.length = n' := h'.len
  have hn : n ≤ maxLen := h.1
  have hn' : n' ≤ maxLen := h'.1
  unfold maxLen at hn hn'
  by_cases hnn : n = n'
  · subst hnn
    have HL := Lib.hid hl; clear hl
    have HL' := Lib.hid hl'; clear hl'
    go_enter Try.func122, Try.ntmps122
    go_wp2
    go_loopw [5] (fun i wr => ∃ k : Nat, k ≤ n ∧ i = .int .i64 k ∧ Ext w wr ∧ Hid (decide (ts = us) = decide (ts.drop k = us.drop k))) (fun i _ => n - (intOf i).toNat)
    case atStart => exact ⟨0, Nat.zero_le _, rfl, Ext.refl _, rfl⟩
    case round =>
      obtain ⟨k, hk, rfl, hE, hD⟩ := hrel
      by_cases hlt : k < n
      · obtain ⟨b, off, B, m, q, xs, hA, hx, c1, hQ⟩ := (h.ext hE).at_ hlt
        obtain ⟨b', off', B', m', q', xs', hA', hx', d1, hQ'⟩ := (h'.ext hE).at_ hlt
        subst hA; subst hA'
        obtain ⟨D1, D2⟩ := dec_drop1 ts us k xs xs' hx hx' hD.out
        have HD1 := Lib.hid D1
        have HD2 := Lib.hid D2
        have SS := Lib.hid hQ
        have SS' := Lib.hid hQ'
        clear hx hx' hD h h' D1 D2 hQ hQ'
        have e0 : ∀ p : ExtBy wr, p.to.cell? ⟨b, off + k, none⟩ = some (.slice B m q) := fun p => p.cell c1
        have g0 : ∀ p : ExtBy wr, p.to.cell? ⟨b', off' + k, none⟩ = some (.slice B' m' q') := fun p => p.cell d1
        clear c1 d1
        by_cases hcc : xs = xs'
        · have D := Lib.hid (HD1.out hcc)
          have hdec : Hid (iEq xs xs' = true) := decide_eq_true hcc
          clear HD1 HD2 hcc
          go_wp2_with fail
          refine wp_region_ext_lit (by kernel_rfl) (by kernel_rfl) ?_
          repeat (go_big_quiet_step (first
            | (go_at_call 14; exact ext_call (calls_val (eqIntS_any B m q xs B' m' q' xs' _ SS.out.1 (SS.out.2.1.ext (ExtBy.ext _)) SS'.out.1 (SS'.out.2.1.ext (ExtBy.ext _))) (congrArg Value.bool hdec.out)))))
          refine wpQuiet_nil ?_
          intro _ hw'
          obtain ⟨⟨wq, hq⟩, hw''⟩ := hw'
          subst hw''
          clear e0 g0
          go_wp2
          go_roundw
          case rel => exact ⟨k + 1, by omega, by go_num, hE.trans hq, D⟩
          case measure => simp [intOf]; omega
        · have D := Lib.hid (HD2.out hcc)
          have hdec : Hid (iEq xs xs' = false) := decide_eq_false hcc
          clear HD1 HD2 hcc
          go_wp2_with fail
          refine wp_region_ext_lit (by kernel_rfl) (by kernel_rfl) ?_
          repeat (go_big_quiet_step (first
            | (go_at_call 14; exact ext_call (calls_val (eqIntS_any B m q xs B' m' q' xs' _ SS.out.1 (SS.out.2.1.ext (ExtBy.ext _)) SS'.out.1 (SS'.out.2.1.ext (ExtBy.ext _))) (congrArg Value.bool hdec.out)))))
          refine wpQuiet_nil ?_
          intro _ hw'
          obtain ⟨⟨wq, hq⟩, hw''⟩ := hw'
          subst hw''
          clear e0 g0
          go_wp2
          go_ret
          exact ⟨ret_b D.out.symm, hE.trans hq⟩
      · clear h h'
        go_wp2
        go_ret
        obtain rfl : k = n := by omega
        refine ⟨ret_b ?_, hE⟩
        unfold iiEq
        rw [hD.out]
        have a1 := HL.out
        have a2 := HL'.out
        rw [List.drop_of_length_le (by omega), List.drop_of_length_le (by omega)]
        rfl
  · have hb : ((n : Int) == (n' : Int)) = false := by simp; omega
    clear h h'
    go_enter Try.func122, Try.ntmps122
    go_wp2
    go_ret
    have : ts ≠ us := by rintro rfl; omega
    exact ⟨ret_b (decide_eq_false this).symm, Ext.refl _⟩
end Go.Proofs.Ytgoaggojbcdgeaa
