/- Lists of constraints in memory: SegC; the law's own sizes, copies and comparisons of them. -/
import Derived.Test.YtnadpcjioakoiaaMemE
import Derived.Test.YtnadpcjioakoiaaSzT
import Derived.Test.YtnadpcjioakoiaaToT
import Derived.Test.YtnadpcjioakoiaaEqT
namespace Go.Proofs.Ytnadpcjioakoiaa
open Go.RowKit

/-- a constraint: its terms and its bound -/
abbrev Cn := List Tm × Int
/-- a slice's header -/
abbrev Hd := Option Addr × Nat × Nat
def encH : List Hd → List Cn → List Value
  | h :: hs, c :: cs => .slice h.1 h.2.1 h.2.2 :: .int .i64 c.2 :: encH hs cs
  | _, _ => []
theorem encH_len : ∀ (hs : List Hd) (cs : List Cn), hs.length = cs.length → (encH hs cs).length = cs.length * 2
  | [], [], _ => rfl
  | [], _ :: _, h => by simp at h
  | _ :: _, [], h => by simp at h
  | h :: hs, c :: cs, e => by
    have := encH_len hs cs (by simpa using e)
    simp only [encH, List.length_cons, this]; omega
theorem encH_get : ∀ (hs : List Hd) (cs : List Cn) (k : Nat) (h : Hd) (c : Cn), hs[k]? = some h → cs[k]? = some c →
    (encH hs cs)[k * 2]? = some (.slice h.1 h.2.1 h.2.2) ∧ (encH hs cs)[k * 2 + 1]? = some (.int .i64 c.2)
  | [], _, k, h, c, e, _ => by simp at e
  | _ :: _, [], k, h, c, _, e => by simp at e
  | x :: hs, y :: cs, 0, h, c, e1, e2 => by
    simp at e1 e2; subst e1; subst e2; exact ⟨rfl, rfl⟩
  | x :: hs, y :: cs, k + 1, h, c, e1, e2 => by
    have := encH_get hs cs k h c (by simpa using e1) (by simpa using e2)
    rw [show (k + 1) * 2 = k * 2 + 1 + 1 from by omega]
    exact this
theorem encH_append : ∀ (hs : List Hd) (cs : List Cn) (hs' : List Hd) (cs' : List Cn), hs.length = cs.length → encH (hs ++ hs') (cs ++ cs') = encH hs cs ++ encH hs' cs'
  | [], [], _, _, _ => rfl
  | [], _ :: _, _, _, h => by simp at h
  | _ :: _, [], _, _, h => by simp at h
  | h :: hs, c :: cs, hs', cs', e => by simp [encH, encH_append hs cs hs' cs' (by simpa using e)]

/-- the slice value reads as the constraints cs -/
def SegC (w : World) (A : Option Addr) (n : Nat) (cs : List Cn) : Prop :=
  ∃ hs : List Hd, hs.length = cs.length ∧ Seg w 2 A n (encH hs cs) ∧ ∀ (i : Nat) (h : Hd) (c : Cn), hs[i]? = some h → cs[i]? = some c → h.2.1 ≤ maxLen ∧ Seg w 2 h.1 h.2.1 (encT c.1)

section
variable {w w' : World} {n : Nat} {A : Option Addr} {cs : List Cn}
theorem SegC.len (h : SegC w A n cs) : cs.length = n := by
  obtain ⟨hs, hl, hS, _⟩ := h
  have := hS.1
  rw [encH_len hs cs hl] at this
  omega
theorem SegC.ext (h : SegC w A n cs) (hE : Ext w w') : SegC w' A n cs := by
  obtain ⟨hs, hl, hS, hi⟩ := h
  exact ⟨hs, hl, hS.ext hE, fun i x c h1 h2 => ⟨(hi i x c h1 h2).1, (hi i x c h1 h2).2.ext hE⟩⟩
theorem SegC.alloc (h : SegC w A n cs) (o : Obj) : SegC (w.alloc o) A n cs := h.ext ((Ext.refl _).alloc _)
theorem SegC.at_ {k : Nat} (h : SegC w A n cs) (hk : k < n) :
    ∃ b off A' n' cap' ts bd, A = some ⟨b, off, none⟩ ∧ cs[k]? = some (ts, bd) ∧ w.cell? ⟨b, off + k * 2, none⟩ = some (.slice A' n' cap') ∧ w.cell? ⟨b, off + k * 2 + 1, none⟩ = some (.int .i64 bd) ∧ n' ≤ maxLen ∧ Seg w 2 A' n' (encT ts) := by
  have hlen := h.len
  obtain ⟨hs, hl, hS, hi⟩ := h
  obtain ⟨b, off, e, hc⟩ := hS.2 (by omega)
  have h1 : hs[k]? = some (hs[k]'(by omega)) := List.getElem?_eq_getElem _
  have h2 : cs[k]? = some (cs[k]'(by omega)) := List.getElem?_eq_getElem _
  have g := encH_get hs cs k _ _ h1 h2
  have q := hi k _ _ h1 h2
  exact ⟨b, off, _, _, _, _, _, e, h2, hc _ _ g.1, hc _ _ g.2, q.1, q.2⟩
theorem SegC.nil (w : World) (A : Option Addr) : SegC w A 0 [] := ⟨[], rfl, Seg.nil _ _ _, fun i h c h1 _ => by simp at h1⟩
end

def csEq (xs ys : List Cn) : Bool := decide (xs = ys)
theorem csEq_self (xs : List Cn) : csEq xs xs = true := by simp [csEq]

/-- what is left of a size -/
def szC : List Cn → Int → Int
  | [], left => left
  | c :: cs, left => if left < 0 then -1 else szC cs (szB c.1.length left)
def szCs (cs : List Cn) (left : Int) : Int := if szB cs.length left < 0 then -1 else if szC cs (szB cs.length left) < 0 then -1 else szC cs (szB cs.length left)
theorem szC_bounds : ∀ (cs : List Cn) (left : Int), -1 ≤ left → -1 ≤ szC cs left ∧ szC cs left ≤ left
  | [], left, h => ⟨h, Int.le_refl _⟩
  | c :: cs, left, h => by
    unfold szC
    split
    · omega
    · have h1 := szB_le c.1.length left h
      have h2 := szB_ge c.1.length left h
      have := szC_bounds cs (szB c.1.length left) h2
      omega
theorem szC_small : ∀ (cs : List Cn) (left : Int), left ≤ 1048576 → -1 ≤ left → ¬ szC cs left < 0 → ∀ c ∈ cs, c.1.length ≤ 1048576
  | [], left, _, _, _, c, hc => by cases hc
  | x :: cs, left, hl, h0, hb, c, hc => by
    unfold szC at hb
    split at hb
    · omega
    · have h1 := szB_le x.1.length left h0
      have h2 := szB_ge x.1.length left h0
      rcases List.mem_cons.1 hc with rfl | hc
      · by_cases hh : szB c.1.length left < 0
        · have := szC_bounds cs (szB c.1.length left) h2
          omega
        · exact szB_small _ _ hl hh
      · exact szC_small cs _ (by omega) h2 hb c hc
theorem szCs_le (cs : List Cn) (left : Int) (h : -1 ≤ left) : szCs cs left ≤ left := by
  have h1 := szB_le cs.length left h
  have h2 := szB_ge cs.length left h
  have := szC_bounds cs _ h2
  unfold szCs
  split
  · exact h
  · split <;> omega
theorem szCs_ge (cs : List Cn) (left : Int) (h : -1 ≤ left) : -1 ≤ szCs cs left := by
  have h2 := szB_ge cs.length left h
  have := szC_bounds cs _ h2
  unfold szCs
  split
  · omega
  · split <;> omega
theorem szCs_small (cs : List Cn) (left : Int) (hl : left ≤ 1048576) (h0 : -1 ≤ left) (hb : ¬ szCs cs left < 0) : cs.length ≤ 1048576 ∧ ∀ c ∈ cs, c.1.length ≤ 1048576 := by
  have h1 := szB_le cs.length left h0
  have h2 := szB_ge cs.length left h0
  unfold szCs at hb
  split at hb
  · omega
  · rename_i hh
    split at hb
    · omega
    · exact ⟨szB_small _ _ hl hh, szC_small cs _ (by omega) h2 ‹_›⟩

set_option maxHeartbeats 1000000 in
theorem szConstraintS_any (A : Option Addr) (n cap : Nat) (cs : List Cn) (left : Int) (w : World) (hn : n ≤ maxLen) (h0 : -1 ≤ left) (h1 : left ≤ 1048576) (h : SegC w A n cs) :
    Calls Try.prog 29 #[.slice A n cap, .int .i64 left] w fun e w' => e = .returned (.int .i64 (szCs cs left)) ∧ Ext w w' := by
  have HL := Lib.hid h.len
  have hb := szB_le n left h0
  have hb2 := szB_ge n left h0
  unfold maxLen at hn
  have hsz : Hid (szB n left = if left - (n : Int) < 0 then -1 else left - n) := rfl
  by_cases hneg : left - (n : Int) < 0
  · have hfin : Hid (szCs cs left = -1) := by
      unfold szCs Hid
      rw [HL.out, hsz.out, if_pos hneg]; rfl
    clear h hb hb2
    go_enter Try.func29, Try.ntmps29
    go_wp2
    go_ret
    exact ⟨ret_i hfin.out.symm, Ext.refl _⟩
  · have hs : Hid (szB n left = left - n) := by rw [Hid, hsz.out, if_neg hneg]
    clear hb hb2
    go_enter Try.func29, Try.ntmps29
    go_wp2
    go_loopw [1, 5] (fun q i wr => ∃ (k : Nat) (z : Int), k ≤ n ∧ i = .int .i64 k ∧ q = .int .i64 z ∧ 0 ≤ z ∧ z ≤ 1048576 ∧ Ext w wr ∧ Hid (szC cs (left - n) = szC (cs.drop k) z)) (fun _ i _ => n - (intOf i).toNat)
    case atStart => exact ⟨0, left - n, Nat.zero_le _, rfl, rfl, by omega, by omega, Ext.refl _, rfl⟩
    case round =>
      obtain ⟨k, z, hk, rfl, rfl, hz0, hz1, hE, hD⟩ := hrel
      by_cases hlt : k < n
      · obtain ⟨b, off, A', n', cap', ts, bd, rfl, hx, c1, c2, hn', hS'⟩ := (h.ext hE).at_ hlt
        have hd := hD.out
        rw [drop_of_get cs k _ hx, szC, if_neg (by omega)] at hd
        have hlen := hS'.lenT
        simp only [hlen] at hd
        have HX := Lib.hid hd
        have q1 := szB_le n' z (by omega)
        have q2 := szB_ge n' z (by omega)
        have HN := Lib.hid hn'
        clear hx hd hD h hS' hlen hn'
        by_cases hq : szB n' z < 0
        · have hfin : Hid (szCs cs left = -1) := by
            unfold szCs Hid
            rw [HL.out, hs.out, if_neg (by omega), if_pos]
            rw [HX.out]
            have := szC_bounds (cs.drop (k + 1)) (szB n' z) q2
            omega
          go_wp2_with fail
          refine (szConstraint_any A' n' cap' bd z _ HN.out (by omega) (by omega)).mono ?_
          rintro e w1 ⟨rfl, hE1⟩
          go_wp2
          go_ret
          exact ⟨ret_i hfin.out.symm, hE.trans hE1⟩
        · have hq' : 0 ≤ szB n' z := by omega
          go_wp2_with fail
          refine (szConstraint_any A' n' cap' bd z _ HN.out (by omega) (by omega)).mono ?_
          rintro e w1 ⟨rfl, hE1⟩
          go_wp2
          go_roundw
          case rel => exact ⟨k + 1, szB n' z, by omega, by go_num, rfl, by omega, by omega, hE.trans hE1, HX⟩
          case measure => simp [intOf]; omega
      · obtain rfl : k = n := by omega
        clear h
        have hfin : Hid (szCs cs left = z) := by
          have e := hD.out
          rw [List.drop_of_length_le (by rw [HL.out]; exact Nat.le_refl _), szC] at e
          unfold szCs Hid
          rw [HL.out, hs.out, if_neg (by omega), e, if_neg (by omega)]
        go_wp2
        go_ret
        exact ⟨ret_i hfin.out.symm, hE⟩

/-- the inner slices of the first k constraints: each in blocks of its own, one behind the other -/
def InC (w0 : Nat) (w : World) (k : Nat) (hs : List Hd) (cs : List Cn) (f : Nat → Nat) : Prop :=
  hs.length = k ∧ w0 ≤ f 0 ∧ (∀ i, i < k → f i ≤ f (i + 1)) ∧ f k ≤ w.heap.size ∧
    ∀ (i : Nat) (h : Hd) (c : Cn), hs[i]? = some h → cs[i]? = some c → h.2.1 ≤ 1048576 ∧ Seg w 2 h.1 h.2.1 (encT c.1) ∧ Free w 2 h.1 h.2.1 ∧ Lies (f i) (f (i + 1)) h.1 h.2.1
theorem InC.ge {w0 : Nat} {w : World} {k : Nat} {hs : List Hd} {cs : List Cn} {f : Nat → Nat} (h : InC w0 w k hs cs f) : ∀ i, i ≤ k → w0 ≤ f i := by
  intro i
  induction i with
  | zero => intro _; exact h.2.1
  | succ i ih => intro hi; exact Nat.le_trans (ih (by omega)) (h.2.2.1 i (by omega))
theorem InC.kept {w0 lo hi : Nat} {w w' : World} {k : Nat} {hs : List Hd} {cs : List Cn} {f : Nat → Nat} (h : InC w0 w k hs cs f) (hK : Kept lo hi w w') (hd : hi ≤ w0) : InC w0 w' k hs cs f := by
  refine ⟨h.1, h.2.1, h.2.2.1, Nat.le_trans h.2.2.2.1 hK.size, fun i x c h1 h2 => ?_⟩
  obtain ⟨q1, q2, q3, q4⟩ := h.2.2.2.2 i x c h1 h2
  have hi' : i < k := by rw [← h.1]; exact (List.getElem?_eq_some_iff.1 h1).1
  have hge := h.ge i (by omega)
  exact ⟨q1, q2.kept q4 hK (.inr (by omega)), q3.kept q2 q4 hK (.inr (by omega)), q4⟩
theorem InC.ext {w0 : Nat} {w w' : World} {k : Nat} {hs : List Hd} {cs : List Cn} {f : Nat → Nat} (h : InC w0 w k hs cs f) (hE : Ext w w') : InC w0 w' k hs cs f :=
  h.kept hE (Nat.zero_le _)
theorem InC.nil (w : World) (cs : List Cn) : InC w.heap.size w 0 [] cs (fun _ => w.heap.size) :=
  ⟨rfl, Nat.le_refl _, fun i h => by omega, Nat.le_refl _, fun i x c h1 _ => by simp at h1⟩
theorem InC.snoc {w0 : Nat} {w w1 : World} {k : Nat} {hs : List Hd} {cs : List Cn} {f : Nat → Nat} (h : InC w0 w k hs cs f) (hE : Ext w w1) {A : Option Addr} {n cap : Nat} {c : Cn} (hc : cs[k]? = some c) (hn : n ≤ 1048576)
    (hG : Got w w1 2 A n (encT c.1)) : InC w0 w1 (k + 1) (hs ++ [(A, n, cap)]) cs (fun i => if i ≤ k then f i else w1.heap.size) := by
  have h' := h.ext hE
  refine ⟨by simp [h.1], by simpa using h.2.1, fun i hi => ?_, by show (if k + 1 ≤ k then f (k+1) else w1.heap.size) ≤ _; rw [if_neg (by omega)]; exact Nat.le_refl _, fun i x c' h1 h2 => ?_⟩
  · simp only
    rcases Nat.lt_or_ge i k with hlt | hge
    · rw [if_pos (by omega), if_pos (by omega)]; exact h.2.2.1 i hlt
    · obtain rfl : i = k := by omega
      rw [if_pos (Nat.le_refl _), if_neg (by omega)]; exact h'.2.2.2.1
  · rcases Nat.lt_or_ge i k with hlt | hge
    · rw [List.getElem?_append_left (by rw [h.1]; exact hlt)] at h1
      obtain ⟨q1, q2, q3, q4⟩ := h'.2.2.2.2 i x c' h1 h2
      simp only
      rw [if_pos (by omega), if_pos (by omega)]
      exact ⟨q1, q2, q3, q4⟩
    · have hik : i = k := by
        have := (List.getElem?_eq_some_iff.1 h1).1
        simp [h.1] at this; omega
      subst hik
      rw [List.getElem?_append_right (by rw [h.1]; exact Nat.le_refl _), h.1] at h1
      simp at h1
      subst h1
      rw [hc] at h2; injection h2 with h2; subst h2
      simp only
      rw [if_pos (Nat.le_refl _), if_neg (by omega)]
      exact ⟨hn, hG.seg, hG.free, hG.lies.wide h.2.2.2.1 (Nat.le_refl _)⟩

/-- constraints in memory of the call's own -/
structure GotC (w w' : World) (A : Option Addr) (n : Nat) (cs : List Cn) : Prop where
  all : ∃ hs f, InC (w.heap.size + 1) w' n hs cs f ∧ cs.length = n ∧ Seg w' 2 A n (encH hs cs) ∧ Free w' 2 A n ∧ Lies w.heap.size (w.heap.size + 1) A n
theorem GotC.seg {w w' : World} {A : Option Addr} {n : Nat} {cs : List Cn} (h : GotC w w' A n cs) : SegC w' A n cs := by
  obtain ⟨hs, f, hI, hl, hS, _, _⟩ := h.all
  exact ⟨hs, by rw [hI.1, hl], hS, fun i x c h1 h2 => ⟨Nat.le_trans (hI.2.2.2.2 i x c h1 h2).1 (by unfold maxLen; omega), (hI.2.2.2.2 i x c h1 h2).2.1⟩⟩

def RetCS (cs : List Cn) (w : World) (e : Ending) (w' : World) : Prop :=
  ∃ A n cap, e = .returned (.slice A n cap) ∧ cs.length = n ∧ GotC w w' A n cs ∧ Ext w w'

theorem Try.infoCn : (Try.prog.info? 32).map (fun i => (i.zero, i.size, i.bytes)) = some (some (.agg #[.slice none 0 0, .int .i64 0]), 2, 32) := by kernel_rfl

theorem encH_snoc (hs : List Hd) (cs : List Cn) (h : Hd) (c : Cn) (e : hs.length = cs.length) : encH (hs ++ [h]) (cs ++ [c]) = encH hs cs ++ [.slice h.1 h.2.1 h.2.2] ++ [.int .i64 c.2] := by
  rw [encH_append hs cs [h] [c] e, List.append_assoc]; rfl

set_option maxHeartbeats 2000000 in
theorem toConstraintS_any (A : Option Addr) (n cap : Nat) (cs : List Cn) (w : World) (hn : n ≤ 1048576) (hsm : ∀ c ∈ cs, c.1.length ≤ 1048576) (h : SegC w A n cs) :
    Calls Try.prog 31 #[.slice A n cap] w fun e w' => RetCS cs w e w' := by
  obtain ⟨i0, hi, hz0, hz1, hz2⟩ := info_parts Try.infoCn
  have hmk := run_make (P := Try.prog) w 45 32 i0 _ Try.underlying45 hi hz0 .i64 .i64 (n : Int) (n : Int) (by omega) (by omega) (by rw [hz2]; omega) (by omega)
  rw [hz1, toNat_cast] at hmk
  have hsz := size_madeCells (Value.agg #[.slice none 0 0, .int .i64 0]).cells (n * 2)
  generalize madeCells (Value.agg #[.slice none 0 0, .int .i64 0]).cells (n * 2) = made at hmk hsz
  have hl := h.len
  have HR0 := Row.new w 32 made
  rw [hsz] at HR0
  have HI0 : InC (w.heap.size + 1) (w.alloc (.cells made 32)) 0 [] cs (fun _ => w.heap.size + 1) := by
    have := InC.nil (w.alloc (.cells made 32)) cs
    rw [World.size_alloc] at this; exact this
  clear hi hz0 hz1 hz2 hsz
  have HL := Lib.hid hl; clear hl
  have HSM := Lib.hid hsm; clear hsm
  go_enter Try.func31, Try.ntmps31
  go_wp2
  clear hmk
  go_loopw [4] (fun i wr => ∃ k : Nat, k ≤ n ∧ i = .int .i64 k ∧ Ext w wr ∧ Hid (∃ cur hs f, Row wr w.heap.size 32 (n * 2) (encH hs (cs.take k)) cur ∧ InC (w.heap.size + 1) wr k hs cs f)) (fun i _ => n - (intOf i).toNat)
  case atStart => exact ⟨0, Nat.zero_le _, rfl, (Ext.refl _).alloc _, ⟨made, [], _, HR0, HI0⟩⟩
  case round =>
    obtain ⟨k, hk, rfl, hE, hR⟩ := hrel
    by_cases hlt : k < n
    · obtain ⟨b, off, A', n', cap', ts, bd, rfl, hx, c1, c2, hn', hS'⟩ := (h.ext hE).at_ hlt
      have hn2 : n' ≤ 1048576 := by rw [← hS'.lenT]; exact HSM.out (ts, bd) (List.mem_of_getElem? hx)
      have HX := Lib.hid hx
      have HS := Lib.hid hS'
      clear hx h HR0 HI0 hS'
      obtain ⟨cur, hs, f, R, I⟩ := hR.out
      have HR' := Lib.hid R
      have HI' := Lib.hid I
      clear R I hR
      go_wp2_with fail
      refine (toConstraint_any A' n' cap' ts bd _ hn2 HS.out).mono ?_
      rintro e w1 ⟨A1, n1, cap1, rfl, hl1, hG1, hE1⟩
      have hn3 : n1 ≤ 1048576 := by rw [← hl1]; exact HSM.out (ts, bd) (List.mem_of_getElem? HX.out)
      have R1 := HR'.out.ext hE1
      have I1 := HI'.out.snoc hE1 (cap := cap1) HX.out hn3 hG1
      have hle : (encH hs (cs.take k)).length = k * 2 := by
        rw [encH_len hs _ (by rw [HI'.out.1, List.length_take, HL.out]; omega), List.length_take, HL.out]; omega
      obtain ⟨o1, d1⟩ := R1.cell (i := k * 2) (by omega)
      obtain ⟨o2, d2⟩ := R1.cell (i := k * 2 + 1) (by omega)
      have f1 := R1.frozen (k * 2)
      have f2 := R1.frozen (k * 2 + 1)
      have R2 := (R1.push (i := k * 2) (by omega) (by omega) (.slice A1 n1 cap1)).push (i := k * 2 + 1) (by simp; omega) (by omega) (.int .i64 bd)
      have K2 : Kept w.heap.size (w.heap.size + 1) w1 _ := ((Kept.refl _ _ w1).setIn (p := ⟨w.heap.size, k * 2, none⟩) (by simp) (.slice A1 n1 cap1)).setIn (p := ⟨w.heap.size, k * 2 + 1, none⟩) (by simp) (.int .i64 bd)
      have I2 := I1.kept K2 (Nat.le_refl _)
      have HR2 := Lib.hid R2
      have HI2 := Lib.hid I2
      have hlen : Hid (hs.length = (cs.take k).length) := by rw [Hid, HI'.out.1, List.length_take, HL.out]; omega
      clear R2 R1 HR' hle I1 I2 K2 hl1 hG1 HS HI'
      go_wp2
      go_roundw
      case rel =>
        refine ⟨k + 1, by omega, by go_num, ((hE.trans hE1).setNew (Nat.le_refl _) _).setNew (Nat.le_refl _) _, ?_⟩
        have q := HR2.out
        rw [← encH_snoc hs (cs.take k) (A1, n1, cap1) (ts, bd) hlen.out, ← take_of_get _ _ _ HX.out] at q
        exact ⟨_, _, _, q, HI2.out⟩
      case measure => simp [intOf]; omega
    · obtain rfl : k = n := by omega
      have HS := Lib.hid hR.out
      clear hR h HR0 HI0
      go_wp2
      go_ret
      obtain ⟨cur, hs, f, R, I⟩ := HS.out
      rw [List.take_of_length_le (by rw [HL.out]; omega)] at R
      have hle : (encH hs cs).length = k * 2 := by rw [encH_len hs cs (by rw [I.1, HL.out]), HL.out]
      have G := R.got (w0 := w) (sz := 2) (n := k) hle (Nat.le_refl _)
      refine ⟨_, _, _, rfl, HL.out, ⟨hs, f, I, HL.out, G.seg, G.free, fun _ ad e => ?_⟩, hE⟩
      injection e with e; subst e; exact ⟨Nat.le_refl _, by simp⟩

def cnEq (x y : Cn) : Bool := cEq x.1 y.1 x.2 y.2

set_option maxRecDepth 100000 in
set_option maxHeartbeats 2000000 in
theorem eqConstraintS_any (A : Option Addr) (n cap : Nat) (ts : List Cn) (A' : Option Addr) (n' cap' : Nat) (us : List Cn) (w : World) (hn : n ≤ maxLen) (h : SegC w A n ts) (hn' : n' ≤ maxLen) (h' : SegC w A' n' us) :
    Calls Try.prog 34 #[.slice A n cap, .slice A' n' cap'] w fun e w' => e = .returned (.bool (csEq ts us)) ∧ Ext w w' := by
  have hl := h.len
  have hl' := h'.len
  unfold maxLen at hn hn'
  by_cases hnn : n = n'
  · subst hnn
    have HL := Lib.hid hl; clear hl
    have HL' := Lib.hid hl'; clear hl'
    go_enter Try.func34, Try.ntmps34
    go_wp2
    go_loopw [5] (fun i wr => ∃ k : Nat, k ≤ n ∧ i = .int .i64 k ∧ Ext w wr ∧ Hid (decide (ts = us) = decide (ts.drop k = us.drop k))) (fun i _ => n - (intOf i).toNat)
    case atStart => exact ⟨0, Nat.zero_le _, rfl, Ext.refl _, rfl⟩
    case round =>
      obtain ⟨k, hk, rfl, hE, hD⟩ := hrel
      by_cases hlt : k < n
      · obtain ⟨b, off, B, m, q, xs, bd, hA, hx, c1, c2, hm, hS⟩ := (h.ext hE).at_ hlt
        obtain ⟨b', off', B', m', q', xs', bd', hA', hx', c1', c2', hm', hS'⟩ := (h'.ext hE).at_ hlt
        subst hA; subst hA'
        obtain ⟨D1, D2⟩ := dec_drop ts us k (xs, bd) (xs', bd') hx hx' hD.out
        have HD1 := Lib.hid D1
        have HD2 := Lib.hid D2
        have SS := Lib.hid hS
        have SS' := Lib.hid hS'
        have MM := Lib.hid hm
        have MM' := Lib.hid hm'
        clear hx hx' hD h h' D1 D2 hS hS' hm hm'
        have e1 : ∀ p : ExtBy wr, p.to.cell? ⟨b, off + k * 2, none⟩ = some (.slice B m q) := fun p => p.cell c1
        have e2 : ∀ p : ExtBy wr, p.to.cell? ⟨b, off + k * 2 + 1, none⟩ = some (.int .i64 bd) := fun p => p.cell c2
        have e3 : ∀ p : ExtBy wr, p.to.cell? ⟨b', off' + k * 2, none⟩ = some (.slice B' m' q') := fun p => p.cell c1'
        have e4 : ∀ p : ExtBy wr, p.to.cell? ⟨b', off' + k * 2 + 1, none⟩ = some (.int .i64 bd') := fun p => p.cell c2'
        clear c1 c2 c1' c2'
        by_cases hcc : (xs, bd) = (xs', bd')
        · have D := Lib.hid (HD1.out hcc)
          have hdec : Hid (cEq xs xs' bd bd' = true) := decide_eq_true (by injection hcc with a1 a2; exact ⟨a1, a2⟩)
          clear HD1 HD2 hcc
          go_wp2_with fail
          refine wp_region_ext_lit (by kernel_rfl) (by kernel_rfl) ?_
          repeat (go_big_quiet_step (first
            | (go_at_call 24; exact ext_call (calls_val (eqConstraint_any B B' m m' q q' xs xs' bd bd' _ MM.out MM'.out (SS.out.ext (ExtBy.ext _)) (SS'.out.ext (ExtBy.ext _))) (congrArg Value.bool hdec.out)))))
          refine wpQuiet_nil ?_
          intro _ hw'
          obtain ⟨⟨wq, hq⟩, hw''⟩ := hw'
          subst hw''
          clear e1 e2 e3 e4
          go_wp2
          go_roundw
          case rel => exact ⟨k + 1, by omega, by go_num, hE.trans hq, D⟩
          case measure => simp [intOf]; omega
        · have D := Lib.hid (HD2.out hcc)
          have hdec : Hid (cEq xs xs' bd bd' = false) := decide_eq_false (by rintro ⟨a1, a2⟩; exact hcc (by rw [a1, a2]))
          clear HD1 HD2 hcc
          go_wp2_with fail
          refine wp_region_ext_lit (by kernel_rfl) (by kernel_rfl) ?_
          repeat (go_big_quiet_step (first
            | (go_at_call 24; exact ext_call (calls_val (eqConstraint_any B B' m m' q q' xs xs' bd bd' _ MM.out MM'.out (SS.out.ext (ExtBy.ext _)) (SS'.out.ext (ExtBy.ext _))) (congrArg Value.bool hdec.out)))))
          refine wpQuiet_nil ?_
          intro _ hw'
          obtain ⟨⟨wq, hq⟩, hw''⟩ := hw'
          subst hw''
          clear e1 e2 e3 e4
          go_wp2
          go_ret
          exact ⟨ret_b D.out.symm, hE.trans hq⟩
      · clear h h'
        go_wp2
        go_ret
        obtain rfl : k = n := by omega
        refine ⟨ret_b ?_, hE⟩
        unfold csEq
        rw [hD.out]
        have a1 := HL.out
        have a2 := HL'.out
        rw [List.drop_of_length_le (by omega), List.drop_of_length_le (by omega)]
        rfl
  · have hb : ((n : Int) == (n' : Int)) = false := by simp; omega
    clear h h'
    go_enter Try.func34, Try.ntmps34
    go_wp2
    go_ret
    have : ts ≠ us := by rintro rfl; omega
    exact ⟨ret_b (decide_eq_false this).symm, Ext.refl _⟩
end Go.Proofs.Ytnadpcjioakoiaa
