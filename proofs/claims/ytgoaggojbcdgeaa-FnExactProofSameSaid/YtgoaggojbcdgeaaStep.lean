/- Lists of steps in memory: SegP; the law's own sizes, copies and comparisons of them. -/
import Derived.Test.YtgoaggojbcdgeaaProb
namespace Go.Proofs.Ytgoaggojbcdgeaa
open Go.RowKit

/-- a step: kind, A, B, the given constraint -/
abbrev St := Int × Int × Int × Cn
def encP : List Hd → List St → List Value
  | h :: hs, s :: ss => .int .i64 s.1 :: .int .i64 s.2.1 :: .int .i64 s.2.2.1 :: .slice h.1 h.2.1 h.2.2 :: .int .i64 s.2.2.2.2 :: encP hs ss
  | _, _ => []
theorem encP_len : ∀ (hs : List Hd) (ss : List St), hs.length = ss.length → (encP hs ss).length = ss.length * 5
  | [], [], _ => rfl
  | [], _ :: _, h => by simp at h
  | _ :: _, [], h => by simp at h
  | h :: hs, c :: cs, e => by
    have := encP_len hs cs (by simpa using e)
    simp only [encP, List.length_cons, this]; omega
theorem encP_get : ∀ (hs : List Hd) (ss : List St) (k : Nat) (h : Hd) (s : St), hs[k]? = some h → ss[k]? = some s →
    (encP hs ss)[k * 5]? = some (.int .i64 s.1) ∧ (encP hs ss)[k * 5 + 1]? = some (.int .i64 s.2.1) ∧ (encP hs ss)[k * 5 + 2]? = some (.int .i64 s.2.2.1) ∧ (encP hs ss)[k * 5 + 3]? = some (.slice h.1 h.2.1 h.2.2) ∧ (encP hs ss)[k * 5 + 4]? = some (.int .i64 s.2.2.2.2)
  | [], _, k, h, c, e, _ => by simp at e
  | _ :: _, [], k, h, c, _, e => by simp at e
  | x :: hs, y :: cs, 0, h, c, e1, e2 => by
    simp at e1 e2; subst e1; subst e2; exact ⟨rfl, rfl, rfl, rfl, rfl⟩
  | x :: hs, y :: cs, k + 1, h, c, e1, e2 => by
    have := encP_get hs cs k h c (by simpa using e1) (by simpa using e2)
    rw [show (k + 1) * 5 = k * 5 + 1 + 1 + 1 + 1 + 1 from by omega]
    exact this
theorem encP_snoc : ∀ (hs : List Hd) (ss : List St) (h : Hd) (s : St), hs.length = ss.length → encP (hs ++ [h]) (ss ++ [s]) = encP hs ss ++ [.int .i64 s.1] ++ [.int .i64 s.2.1] ++ [.int .i64 s.2.2.1] ++ [.slice h.1 h.2.1 h.2.2] ++ [.int .i64 s.2.2.2.2]
  | [], [], _, _, _ => rfl
  | [], _ :: _, _, _, h => by simp at h
  | _ :: _, [], _, _, h => by simp at h
  | x :: hs, y :: ss, h, s, e => by simp [encP, encP_snoc hs ss h s (by simpa using e)]

/-- the slice value reads as the steps ss -/
def SegP (w : World) (A : Option Addr) (n : Nat) (ss : List St) : Prop :=
  ∃ hs : List Hd, hs.length = ss.length ∧ Seg w 5 A n (encP hs ss) ∧ ∀ (i : Nat) (h : Hd) (s : St), hs[i]? = some h → ss[i]? = some s → h.2.1 ≤ maxLen ∧ Seg w 2 h.1 h.2.1 (encT s.2.2.2.1)
section
variable {w w' : World} {n : Nat} {A : Option Addr} {ss : List St}
theorem SegP.len (h : SegP w A n ss) : ss.length = n := by
  obtain ⟨hs, hl, hS, _⟩ := h
  have := hS.1
  rw [encP_len hs ss hl] at this
  omega
theorem SegP.ext (h : SegP w A n ss) (hE : Ext w w') : SegP w' A n ss := by
  obtain ⟨hs, hl, hS, hi⟩ := h
  exact ⟨hs, hl, hS.ext hE, fun i x c h1 h2 => ⟨(hi i x c h1 h2).1, (hi i x c h1 h2).2.ext hE⟩⟩
theorem SegP.at_ {k : Nat} (h : SegP w A n ss) (hk : k < n) :
    ∃ b off x y z A' n' cap' ts bd, A = some ⟨b, off, none⟩ ∧ ss[k]? = some (x, y, z, ts, bd) ∧ w.cell? ⟨b, off + k * 5, none⟩ = some (.int .i64 x) ∧ w.cell? ⟨b, off + k * 5 + 1, none⟩ = some (.int .i64 y) ∧ w.cell? ⟨b, off + k * 5 + 2, none⟩ = some (.int .i64 z)
      ∧ w.cell? ⟨b, off + k * 5 + 3, none⟩ = some (.slice A' n' cap') ∧ w.cell? ⟨b, off + k * 5 + 4, none⟩ = some (.int .i64 bd) ∧ n' ≤ maxLen ∧ Seg w 2 A' n' (encT ts) := by
  have hlen := h.len
  obtain ⟨hs, hl, hS, hi⟩ := h
  obtain ⟨b, off, e, hc⟩ := hS.2 (by omega)
  have h1 : hs[k]? = some (hs[k]'(by omega)) := List.getElem?_eq_getElem _
  have h2 : ss[k]? = some (ss[k]'(by omega)) := List.getElem?_eq_getElem _
  have g := encP_get hs ss k _ _ h1 h2
  have q := hi k _ _ h1 h2
  exact ⟨b, off, _, _, _, _, _, _, _, _, e, h2, hc _ _ g.1, hc _ _ g.2.1, hc _ _ g.2.2.1, hc _ _ g.2.2.2.1, hc _ _ g.2.2.2.2, q.1, q.2⟩
end
def cnS (ss : List St) : List Cn := ss.map fun s => s.2.2.2
instance stDec : DecidableEq St := fun a b => decidable_of_iff (a.1 = b.1 ∧ a.2.1 = b.2.1 ∧ a.2.2.1 = b.2.2.1 ∧ a.2.2.2.1 = b.2.2.2.1 ∧ a.2.2.2.2 = b.2.2.2.2) (by
  obtain ⟨a1, a2, a3, a4, a5⟩ := a
  obtain ⟨b1, b2, b3, b4, b5⟩ := b
  simp)
def spEq (xs ys : List St) : Bool := decide (xs = ys)
theorem spEq_self (xs : List St) : spEq xs xs = true := by simp [spEq]

set_option maxHeartbeats 1000000 in
theorem szStep_any (x y z : Int) (A : Option Addr) (n cap : Nat) (bd left : Int) (w : World) (hn : n ≤ maxLen) (h0 : -1 ≤ left) (h1 : left ≤ 1048576) :
    Calls Try.prog 54 #[.agg #[.int .i64 x, .int .i64 y, .int .i64 z, .slice A n cap, .int .i64 bd], .int .i64 left] w fun e w' => e = .returned (.int .i64 (szB n left)) ∧ Ext w w' := by
  have q1 := szB_le n left h0
  have q2 := szB_ge n left h0
  by_cases hq : szB n left < 0
  · have hm : Hid (szB n left = -1) := by show szB n left = -1; omega
    go_enter Try.func54, Try.ntmps54
    go_wp2_with fail
    refine (szConstraint_any A n cap bd left _ hn (by omega) (by omega)).mono ?_
    rintro e w1 ⟨rfl, hE1⟩
    go_wp2
    go_ret
    exact ⟨ret_i hm.out.symm, ((Ext.refl _).alloc _).trans hE1⟩
  · go_enter Try.func54, Try.ntmps54
    go_wp2_with fail
    refine (szConstraint_any A n cap bd left _ hn (by omega) (by omega)).mono ?_
    rintro e w1 ⟨rfl, hE1⟩
    go_wp2
    go_ret
    exact ⟨rfl, ((Ext.refl _).alloc _).trans hE1⟩

set_option maxHeartbeats 1000000 in
theorem szStepS_any (A : Option Addr) (n cap : Nat) (ss : List St) (left : Int) (w : World) (hn : n ≤ maxLen) (h0 : -1 ≤ left) (h1 : left ≤ 1048576) (h : SegP w A n ss) :
    Calls Try.prog 22 #[.slice A n cap, .int .i64 left] w fun e w' => e = .returned (.int .i64 (szCs (cnS ss) left)) ∧ Ext w w' := by
  have hlc : (cnS ss).length = n := by unfold cnS; rw [List.length_map, h.len]
  have HL := Lib.hid hlc
  have hb := szB_le n left h0
  have hb2 := szB_ge n left h0
  unfold maxLen at hn
  have hsz : Hid (szB n left = if left - (n : Int) < 0 then -1 else left - n) := rfl
  clear hlc
  by_cases hneg : left - (n : Int) < 0
  · have hfin : Hid (szCs (cnS ss) left = -1) := by
      unfold szCs Hid
      rw [HL.out, hsz.out, if_pos hneg]; rfl
    clear h hb hb2
    go_enter Try.func22, Try.ntmps22
    go_wp2
    go_ret
    exact ⟨ret_i hfin.out.symm, Ext.refl _⟩
  · have hs : Hid (szB n left = left - n) := by rw [Hid, hsz.out, if_neg hneg]
    clear hb hb2
    go_enter Try.func22, Try.ntmps22
    go_wp2
    go_loopw [1, 5] (fun q i wr => ∃ (k : Nat) (z : Int), k ≤ n ∧ i = .int .i64 k ∧ q = .int .i64 z ∧ 0 ≤ z ∧ z ≤ 1048576 ∧ Ext w wr ∧ Hid (szC (cnS ss) (left - n) = szC ((cnS ss).drop k) z)) (fun _ i _ => n - (intOf i).toNat)
    case atStart => exact ⟨0, left - n, Nat.zero_le _, rfl, rfl, by omega, by omega, Ext.refl _, rfl⟩
    case round =>
      obtain ⟨k, z, hk, rfl, rfl, hz0, hz1, hE, hD⟩ := hrel
      by_cases hlt : k < n
      · obtain ⟨b, off, x1, x2, x3, A', n', cap', ts, bd, rfl, hx, c1, c2, c3, c4, c5, hn', hS'⟩ := (h.ext hE).at_ hlt
        have hxc : (cnS ss)[k]? = some (ts, bd) := by unfold cnS; rw [List.getElem?_map, hx]; rfl
        have hd := hD.out
        rw [drop_of_get (cnS ss) k _ hxc, szC, if_neg (by omega)] at hd
        have hlen := hS'.lenT
        simp only [hlen] at hd
        have HX := Lib.hid hd
        have q1 := szB_le n' z (by omega)
        have q2 := szB_ge n' z (by omega)
        have HN := Lib.hid hn'
        clear hx hd hD h hS' hlen hn' hxc
        by_cases hq : szB n' z < 0
        · have hfin : Hid (szCs (cnS ss) left = -1) := by
            unfold szCs Hid
            rw [HL.out, hs.out, if_neg (by omega), if_pos]
            rw [HX.out]
            have := szC_bounds ((cnS ss).drop (k + 1)) (szB n' z) q2
            omega
          go_wp2_with fail
          refine (szStep_any x1 x2 x3 A' n' cap' bd z _ HN.out (by omega) (by omega)).mono ?_
          rintro e w1 ⟨rfl, hE1⟩
          go_wp2
          go_ret
          exact ⟨ret_i hfin.out.symm, hE.trans hE1⟩
        · have hq' : 0 ≤ szB n' z := by omega
          go_wp2_with fail
          refine (szStep_any x1 x2 x3 A' n' cap' bd z _ HN.out (by omega) (by omega)).mono ?_
          rintro e w1 ⟨rfl, hE1⟩
          go_wp2
          go_roundw
          case rel => exact ⟨k + 1, szB n' z, by omega, by go_num, rfl, by omega, by omega, hE.trans hE1, HX⟩
          case measure => simp [intOf]; omega
      · obtain rfl : k = n := by omega
        clear h
        have hfin : Hid (szCs (cnS ss) left = z) := by
          have e := hD.out
          rw [List.drop_of_length_le (by rw [HL.out]; exact Nat.le_refl _), szC] at e
          unfold szCs Hid
          rw [HL.out, hs.out, if_neg (by omega), e, if_neg (by omega)]
        go_wp2
        go_ret
        exact ⟨ret_i hfin.out.symm, hE⟩

/-- a copy of a step -/
def RetP (x y z : Int) (ts : List Tm) (bd : Int) (w : World) (e : Ending) (w' : World) : Prop :=
  ∃ A n cap, e = .returned (.agg #[.int .i64 x, .int .i64 y, .int .i64 z, .slice A n cap, .int .i64 bd]) ∧ ts.length = n ∧ Seg w' 2 A n (encT ts) ∧ Lies (w.heap.size + 2) w'.heap.size A n ∧ Ext w w'
set_option maxRecDepth 100000 in
set_option maxHeartbeats 2000000 in
theorem toStep_any (x y z : Int) (A : Option Addr) (n cap : Nat) (ts : List Tm) (bd : Int) (w : World) (hn : n ≤ 1048576) (h : Seg w 2 A n (encT ts)) :
    Calls Try.prog 56 #[.agg #[.int .i64 x, .int .i64 y, .int .i64 z, .slice A n cap, .int .i64 bd]] w (RetP x y z ts bd w) := by
  have HS := Lib.hid h
  clear h
  go_enter Try.func56, Try.ntmps56
  go_wp2_with fail
  refine (toConstraint_any A n cap ts bd _ hn (((HS.out.alloc _).alloc _).alloc _)).mono ?_
  rintro e w1 ⟨A1, n1, cap1, rfl, hl1, hG1, hE1⟩
  obtain ⟨B0, B1, B2⟩ := Blk.of3 hE1
  have b0 := B2.cell 0
  have b1 := B2.cell 1
  have b2 := B2.cell 2
  have b3 := B2.cell 3
  have b4 := B2.cell 4
  have p3 := B2.frozen 3
  have p4 := B2.frozen 4
  have r0 := B1.cell 0
  have r1 := B1.cell 1
  have r2 := B1.cell 2
  have r3 := B1.cell 3
  have r4 := B1.cell 4
  have q0 := B1.frozen 0
  have q1 := B1.frozen 1
  have q2 := B1.frozen 2
  have q3 := B1.frozen 3
  have q4 := B1.frozen 4
  have HG := Lib.hid hG1
  have HL := Lib.hid hl1
  have HE := Lib.hid hE1
  clear B0 B1 B2 hG1 hl1 hE1
  go_wp2
  refine bodyPost_ret (v := .agg #[.int .i64 x, .int .i64 y, .int .i64 z, .slice A1 n1 cap1, .int .i64 bd]) (by simp [results, Try.results56, go_sem, r0, r1, r2, r3, r4]) rfl ?_
  have K : ∀ X, Kept (w.heap.size + 1) (w.heap.size + 3) w1 X → RetP x y z ts bd w (.returned (.agg #[.int .i64 x, .int .i64 y, .int .i64 z, .slice A1 n1 cap1, .int .i64 bd])) X := fun X k => by
    have L3 : Lies (w.heap.size + 3) w1.heap.size A1 n1 := HG.out.lies.wide (by simp) (Nat.le_refl _)
    have E1 : Ext w w1 := ((((Ext.refl w).alloc _).alloc _).alloc _).trans HE.out
    exact ⟨A1, n1, cap1, rfl, HL.out, HG.out.seg.kept L3 k (.inr (Nat.le_refl _)), L3.wide (by omega) k.size, E1.fresh k (by omega)⟩
  refine K _ ?_
  repeat (refine Kept.setIn ?_ (by simp) _)
  exact Kept.refl _ _ _

theorem Try.infoSt : (Try.prog.info? 78).map (fun i => (i.zero, i.size, i.bytes)) = some (some (.agg #[.int .i64 0, .int .i64 0, .int .i64 0, .slice none 0 0, .int .i64 0]), 5, 56) := by kernel_rfl
/-- a copy of a list of steps -/
def RetPS (ss : List St) (w : World) (e : Ending) (w' : World) : Prop :=
  ∃ A n cap, e = .returned (.slice A n cap) ∧ ss.length = n ∧ SegP w' A n ss ∧ Ext w w'
def InP (lo : Nat) (w : World) (hs : List Hd) (ss : List St) : Prop :=
  ∀ (i : Nat) (h : Hd) (s : St), hs[i]? = some h → ss[i]? = some s → h.2.1 ≤ maxLen ∧ Seg w 2 h.1 h.2.1 (encT s.2.2.2.1) ∧ Lies lo w.heap.size h.1 h.2.1
theorem InP.kept {lo lo' hi' : Nat} {w w' : World} {hs : List Hd} {ss : List St} (h : InP lo w hs ss) (K : Kept lo' hi' w w') (hd : hi' ≤ lo) : InP lo w' hs ss := by
  intro i x c h1 h2
  obtain ⟨q1, q2, q3⟩ := h i x c h1 h2
  exact ⟨q1, q2.kept q3 K (.inr hd), q3.wide (Nat.le_refl _) K.size⟩
theorem InP.snoc {lo : Nat} {w : World} {hs : List Hd} {ss : List St} {k : Nat} (h : InP lo w hs ss) (hk : hs.length = k) {A : Option Addr} {n cap : Nat} {s : St} (hc : ss[k]? = some s) (hn : n ≤ maxLen) (hS : Seg w 2 A n (encT s.2.2.2.1)) (hL : Lies lo w.heap.size A n) : InP lo w (hs ++ [(A, n, cap)]) ss := by
  intro i x c h1 h2
  rcases Nat.lt_or_ge i k with hlt | hge
  · rw [List.getElem?_append_left (by omega)] at h1
    exact h i x c h1 h2
  · rw [List.getElem?_append_right (by omega)] at h1
    rcases Nat.eq_zero_or_pos (i - hs.length) with h0 | h0
    · rw [h0] at h1
      simp at h1
      subst h1
      obtain rfl : i = k := by omega
      rw [hc] at h2; injection h2 with h2; subst h2
      exact ⟨hn, hS, hL⟩
    · rw [List.getElem?_eq_none (by simp; omega)] at h1; cases h1
set_option maxRecDepth 100000 in
set_option maxHeartbeats 2000000 in
theorem toStepS_any (A : Option Addr) (n cap : Nat) (ss : List St) (w : World) (hn : n ≤ 1048576) (hsm : ∀ c ∈ cnS ss, c.1.length ≤ 1048576) (h : SegP w A n ss) :
    Calls Try.prog 24 #[.slice A n cap] w fun e w' => RetPS ss w e w' := by
  obtain ⟨i0, hi, hz0, hz1, hz2⟩ := info_parts Try.infoSt
  have hmk := run_make (P := Try.prog) w 43 78 i0 _ Try.underlying43 hi hz0 .i64 .i64 (n : Int) (n : Int) (by omega) (by omega) (by rw [hz2]; omega) (by omega)
  rw [hz1, toNat_cast] at hmk
  have hsz := size_madeCells (Value.agg #[.int .i64 0, .int .i64 0, .int .i64 0, .slice none 0 0, .int .i64 0]).cells (n * 5)
  generalize madeCells (Value.agg #[.int .i64 0, .int .i64 0, .int .i64 0, .slice none 0 0, .int .i64 0]).cells (n * 5) = made at hmk hsz
  have hl := h.len
  have HR0 := Row.new w 78 made
  rw [hsz] at HR0
  clear hi hz0 hz1 hz2 hsz
  have HL := Lib.hid hl; clear hl
  have HSM := Lib.hid hsm; clear hsm
  go_enter Try.func24, Try.ntmps24
  go_wp2
  clear hmk
  go_loopw [4] (fun i wr => ∃ k : Nat, k ≤ n ∧ i = .int .i64 k ∧ Ext w wr ∧ Hid (∃ cur hs, Row wr w.heap.size 78 (n * 5) (encP hs (ss.take k)) cur ∧ hs.length = k ∧ InP (w.heap.size + 1) wr hs ss)) (fun i _ => n - (intOf i).toNat)
  case atStart => exact ⟨0, Nat.zero_le _, rfl, (Ext.refl _).alloc _, ⟨made, [], HR0, rfl, fun i x c h1 _ => by simp at h1⟩⟩
  case round =>
    obtain ⟨k, hk, rfl, hE, hR⟩ := hrel
    by_cases hlt : k < n
    · obtain ⟨b, off, x1, x2, x3, A', n', cap', ts, bd, rfl, hx, c1, c2, c3, c4, c5, hn', hS'⟩ := (h.ext hE).at_ hlt
      have hxc : (cnS ss)[k]? = some (ts, bd) := by unfold cnS; rw [List.getElem?_map, hx]; rfl
      have hn2 : n' ≤ 1048576 := by rw [← hS'.lenT]; exact HSM.out (ts, bd) (List.mem_of_getElem? hxc)
      have HX := Lib.hid hx
      have HS := Lib.hid hS'
      clear hx h HR0 hS' hxc
      obtain ⟨cur, hs, R, hlh, I⟩ := hR.out
      have HR' := Lib.hid R
      have HI' := Lib.hid I
      have hwr := R.blk.lt
      clear R I hR
      go_wp2_with fail
      refine (toStep_any x1 x2 x3 A' n' cap' ts bd _ hn2 HS.out).mono ?_
      rintro e w1 ⟨A1, n1, cap1, rfl, hl1, hG1, hLI, hE1⟩
      have hn3 : n1 ≤ maxLen := by rw [← hl1, HS.out.lenT]; unfold maxLen; omega
      have R1 := HR'.out.ext hE1
      have hle : (encP hs (ss.take k)).length = k * 5 := by
        rw [encP_len hs _ (by rw [hlh, List.length_take, HL.out]; omega), List.length_take, HL.out]; omega
      have f0 := R1.frozen (k * 5)
      have f1 := R1.frozen (k * 5 + 1)
      have f2 := R1.frozen (k * 5 + 2)
      have f3 := R1.frozen (k * 5 + 3)
      have f4 := R1.frozen (k * 5 + 4)
      obtain ⟨o0, d0⟩ := R1.cell (i := k * 5) (by omega)
      obtain ⟨o1, d1⟩ := R1.cell (i := k * 5 + 1) (by omega)
      obtain ⟨o2, d2⟩ := R1.cell (i := k * 5 + 2) (by omega)
      obtain ⟨o3, d3⟩ := R1.cell (i := k * 5 + 3) (by omega)
      obtain ⟨o4, d4⟩ := R1.cell (i := k * 5 + 4) (by omega)
      have R2 := ((((R1.push (i := k * 5) (by omega) (by omega) (.int .i64 x1)).push (i := k * 5 + 1) (by simp; omega) (by omega) (.int .i64 x2)).push (i := k * 5 + 2) (by simp; omega) (by omega) (.int .i64 x3)).push (i := k * 5 + 3) (by simp; omega) (by omega) (.slice A1 n1 cap1)).push (i := k * 5 + 4) (by simp; omega) (by omega) (.int .i64 bd)
      have K2 : Kept w.heap.size (w.heap.size + 1) w1 _ := (((((Kept.refl _ _ w1).setIn (p := ⟨w.heap.size, k * 5, none⟩) (by simp) (.int .i64 x1)).setIn (p := ⟨w.heap.size, k * 5 + 1, none⟩) (by simp) (.int .i64 x2)).setIn (p := ⟨w.heap.size, k * 5 + 2, none⟩) (by simp) (.int .i64 x3)).setIn (p := ⟨w.heap.size, k * 5 + 3, none⟩) (by simp) (.slice A1 n1 cap1)).setIn (p := ⟨w.heap.size, k * 5 + 4, none⟩) (by simp) (.int .i64 bd)
      have I1 := (HI'.out.kept hE1 (Nat.zero_le _)).snoc hlh (cap := cap1) HX.out hn3 hG1 (hLI.wide (by omega) (Nat.le_refl _))
      have I2 := I1.kept K2 (Nat.le_refl _)
      have HR2 := Lib.hid R2
      have HI2 := Lib.hid I2
      have HKE := Lib.hid ((hE.trans hE1).fresh K2 (Nat.le_refl _))
      have hlen : Hid (hs.length = (ss.take k).length) := by rw [Hid, hlh, List.length_take, HL.out]; omega
      have HLH := Lib.hid hlh
      clear R2 R1 HR' hle I1 I2 K2 hl1 hG1 HS HI' hLI hlh
      go_wp2
      go_roundw
      case rel =>
        refine ⟨k + 1, by omega, by go_num, HKE.out, ?_⟩
        have q := HR2.out
        rw [← encP_snoc hs (ss.take k) (A1, n1, cap1) (x1, x2, x3, ts, bd) hlen.out, ← take_of_get _ _ _ HX.out] at q
        exact ⟨_, _, q, by simp [HLH.out], HI2.out⟩
      case measure => simp [intOf]; omega
    · obtain rfl : k = n := by omega
      have HS := Lib.hid hR.out
      clear hR h HR0
      go_wp2
      go_ret
      obtain ⟨cur, hs, R, hlh, I⟩ := HS.out
      rw [List.take_of_length_le (by rw [HL.out]; omega)] at R
      have hle : (encP hs ss).length = k * 5 := by rw [encP_len hs ss (by rw [hlh, HL.out]), HL.out]
      have G := R.got (w0 := w) (sz := 5) (n := k) hle (Nat.le_refl _)
      exact ⟨_, _, _, rfl, HL.out, ⟨hs, by rw [hlh, HL.out], G.seg, fun i x c e1 e2 => ⟨(I i x c e1 e2).1, (I i x c e1 e2).2.1⟩⟩, hE⟩
end Go.Proofs.Ytgoaggojbcdgeaa
