/- CountSolutions and NextSolution, the program's and the reference's. -/
import Derived.Test.YtmbdfnimmjomfaaSats
import Derived.Test.YtmbdfnimmjomfaaMk
import Derived.Test.YtmbdfnimmjomfaaSetAt
import Derived.Test.YtmbdfnimmjomfaaPlC
import Derived.Laws.BitsLemmas
namespace Go.Proofs.Ytmbdfnimmjomfaa
open Go.RowKit

/-- the values with a number -/
def bitB (n i : Nat) : Bool := decide (n / 2 ^ (11 - i) % 2 = 1)
def bitsN (n : Nat) : List Bool := (List.range 12).map (bitB n)
theorem bitsN_len (n : Nat) : (bitsN n).length = 12 := by simp [bitsN]
theorem bitsN_at (n i : Nat) (h : i < 12) : (bitsN n)[i]? = some (bitB n i) := by
  unfold bitsN; rw [List.getElem?_map, List.getElem?_range h]; rfl
theorem bitsN_of {n : Nat} {vs : List Bool} (hl : vs.length = 12) (h : ∀ j, j < 12 → vs[j]? = some (bitB n j)) : vs = bitsN n := by
  apply List.ext_getElem?
  intro i
  by_cases hi : i < 12
  · rw [h i hi, bitsN_at n i hi]
  · rw [List.getElem?_eq_none (by omega), List.getElem?_eq_none (by rw [bitsN_len]; omega)]
def numB (vs : List Bool) : Nat := vs.foldl (fun n b => 2 * n + (if b = true then 1 else 0)) 0
theorem numB_snoc (vs : List Bool) (b : Bool) : numB (vs ++ [b]) = 2 * numB vs + (if b = true then 1 else 0) := by simp [numB]
theorem numB_lt : ∀ vs : List Bool, numB vs < 2 ^ vs.length := by
  have key : ∀ us : List Bool, numB us.reverse < 2 ^ us.length := by
    intro us
    induction us with
    | nil => simp [numB]
    | cons b us ih =>
      rw [List.reverse_cons, numB_snoc, List.length_cons, Nat.pow_succ]
      split <;> omega
  intro vs
  have := key vs.reverse
  rwa [List.reverse_reverse, List.length_reverse] at this

def goodN (cs : List Cn) (k : Nat) : Bool := cs.all (holdC (bitsN k))
/-- how many of the first numbers are solutions' -/
def cntN (cs : List Cn) (n : Nat) : Nat := ((List.range n).filter (goodN cs)).length
theorem cntN_succ (cs : List Cn) (n : Nat) : cntN cs (n + 1) = cntN cs n + (if goodN cs n = true then 1 else 0) := by
  unfold cntN
  rw [List.range_succ, List.filter_append, List.length_append, List.filter_cons]
  split <;> rfl
theorem cntN_le (cs : List Cn) (n : Nat) : cntN cs n ≤ n := by
  have := List.length_filter_le (goodN cs) (List.range n)
  rw [List.length_range] at this; exact this
def cnI (cs : List Cn) : Int := if probB cs = true then (cntN cs 4096 : Int) else 0
/-- the first solution's number from k on -/
def nxtN (cs : List Cn) : Nat → Nat → Option Nat
  | 0, _ => none
  | f + 1, k => if goodN cs k = true then some k else nxtN cs f (k + 1)
def nxF (cs : List Cn) (vs : List Bool) : Option Nat := nxtN cs (4096 - numB vs) (numB vs)
def nsOk (cs : List Cn) (vs : List Bool) : Bool := probB cs && decide (vs.length = 12)
def nsB (cs : List Cn) (vs : List Bool) : Bool := nsOk cs vs && (nxF cs vs).isSome
def nsT (cs : List Cn) (vs : List Bool) : List Bool := if nsOk cs vs = true then (match nxF cs vs with | some k => bitsN k | none => []) else []
theorem nsT_len (cs : List Cn) (vs : List Bool) : (nsT cs vs).length ≤ 1048576 := by
  unfold nsT; split
  · split
    · rw [bitsN_len]; omega
    · simp
  · simp

/-- values in memory of the call's own -/
def RetN (n : Nat) (w : World) (e : Ending) (w' : World) : Prop :=
  ∃ A, e = .returned (.slice A 12 12) ∧ Got w w' 1 A 12 (encB (bitsN n)) ∧ Ext w w'
theorem blk_bits {w : World} {g : Nat} {t : TypeId} {vs : List Bool} {i : Nat} (h : Blk w g t (encB vs).toArray) (b : Bool) : Blk (w.setCell ⟨g, i, none⟩ (.bool b)) g t (encB (vs.set i b)).toArray := by
  have := h.set_ i (.bool b)
  rwa [encB_set1] at this
theorem and1 (i : Nat) (hi : i < 9223372036854775808) : bits BinOp.and IntKind.i64 (i : Int) 1 = ((i % 2 : Nat) : Int) := by
  have t63 : (2 : Int) ^ 63 = 9223372036854775808 := by decide
  have h := bits_mask .i64 63 (by decide) (fun n h0 h1 => by rw [t63] at h1; rw [IntKind.wrap_i64]; omega) 1 (by decide) (i : Int) (by omega) (by rw [t63]; omega)
  have e : ((2 : Int) ^ 1 - 1) = 1 := by decide
  rw [e] at h
  rw [h]
  omega
theorem bit_shr (n k : Nat) (hn : n < 4096) (b : Bool) (h : bitB n k = b) : (bits BinOp.and IntKind.i64 ((n : Int) / 2 ^ (11 - k)) 1 == 1) = b := by
  have e : ((n : Int) / 2 ^ (11 - k)) = ((n / 2 ^ (11 - k) : Nat) : Int) := by push_cast; rfl
  have hlt : n / 2 ^ (11 - k) < 4096 := Nat.lt_of_le_of_lt (Nat.div_le_self _ _) hn
  rw [e, and1 _ (by omega), ← h]
  unfold bitB
  by_cases h1 : n / 2 ^ (11 - k) % 2 = 1
  · rw [h1]; rfl
  · have h2 : n / 2 ^ (11 - k) % 2 = 0 := by omega
    rw [h2]; rfl

set_option maxHeartbeats 1000000 in
theorem numbered_any (n : Nat) (w : World) (hn : n < 4096) :
    Calls Try.prog 49 #[.int .i64 n] w (RetN n w) := by
  have hmk := Try.mkB12 w
  have HB0 := Lib.hid (Blk.new w 4 #[.bool false, .bool false, .bool false, .bool false, .bool false, .bool false, .bool false, .bool false, .bool false, .bool false, .bool false, .bool false])
  go_enter Try.func49, Try.ntmps49
  go_wp2_with fail
  clear hmk
  go_loopw [8] (fun i wr => ∃ (k : Nat) (vs : List Bool), k ≤ 12 ∧ i = .int .i64 k ∧ Ext w wr ∧ Hid (vs.length = 12 ∧ Blk wr w.heap.size 4 (encB vs).toArray ∧ ∀ j, j < k → vs[j]? = some (bitB n j))) (fun i _ => 12 - (intOf i).toNat)
  case atStart => exact ⟨0, List.replicate 12 false, by omega, rfl, (Ext.refl _).alloc _, rfl, HB0.out, fun j hj => by omega⟩
  case round =>
    obtain ⟨k, vs, hk, rfl, hE, hD⟩ := hrel
    by_cases hlt : k < 12
    · obtain ⟨b, hb⟩ : ∃ b, bitB n k = b := ⟨_, rfl⟩
      have hs := bit_shr n k hn b hb
      have c1 : ∃ u, wr.cell? ⟨w.heap.size, k, none⟩ = some u := by
        rw [hD.out.2.1.cell]
        exact ⟨_, Array.getElem?_eq_getElem (by simp [encB, hD.out.1]; omega)⟩
      obtain ⟨u, c1⟩ := c1
      have f1 := hD.out.2.1.frozen k
      have HN : Hid ((vs.set k b).length = 12 ∧ Blk (wr.setCell ⟨w.heap.size, k, none⟩ (.bool b)) w.heap.size 4 (encB (vs.set k b)).toArray ∧ ∀ j, j < k + 1 → (vs.set k b)[j]? = some (bitB n j)) := by
        refine ⟨by rw [List.length_set]; exact hD.out.1, blk_bits hD.out.2.1 b, fun j hj => ?_⟩
        by_cases e : k = j
        · subst e; rw [List.getElem?_set_self (by rw [hD.out.1]; exact hlt), hb]
        · rw [List.getElem?_set_ne e]; exact hD.out.2.2 j (by omega)
      clear hb hD
      go_wp2
      go_roundw
      case rel => exact ⟨k + 1, vs.set k b, by omega, by go_num, hE.setNew (Nat.le_refl _) _, HN.out⟩
      case measure => simp [intOf]; omega
    · obtain rfl : k = 12 := by omega
      have HF : Hid (vs = bitsN n) := bitsN_of hD.out.1 hD.out.2.2
      have HB := Lib.hid hD.out.2.1
      clear hD
      go_wp2
      go_ret
      obtain rfl := HF.out
      exact ⟨_, rfl, HB.out.got (by simp [encB, bitsN_len]) (Nat.le_refl _), hE⟩

set_option maxHeartbeats 1000000 in
theorem l5Values_any (n : Nat) (w : World) (hn : n < 4096) :
    Calls Try.prog 52 #[.int .i64 n] w (RetN n w) := by
  have hmk := Try.mkB12 w
  have HB0 := Lib.hid (Blk.new w 4 #[.bool false, .bool false, .bool false, .bool false, .bool false, .bool false, .bool false, .bool false, .bool false, .bool false, .bool false, .bool false])
  go_enter Try.func52, Try.ntmps52
  go_wp2_with fail
  clear hmk
  go_loopw [0, 4] (fun m i wr => ∃ (k q : Nat) (vs : List Bool), k ≤ 12 ∧ m = .int .i64 q ∧ i = .int .i64 ((k : Int) - 1) ∧ q < 4096 ∧ Ext w wr ∧ Hid ((k ≠ 0 → q = n / 2 ^ (12 - k)) ∧ vs.length = 12 ∧ Blk wr w.heap.size 4 (encB vs).toArray ∧ ∀ j, k ≤ j → j < 12 → vs[j]? = some (bitB n j))) (fun _ i _ => (intOf i + 1).toNat)
  case atStart => exact ⟨12, n, List.replicate 12 false, by omega, rfl, rfl, hn, (Ext.refl _).alloc _, fun _ => by simp, rfl, HB0.out, fun j h1 h2 => by omega⟩
  case round =>
    obtain ⟨k, q, vs, hk, rfl, rfl, hq, hE, hD⟩ := hrel
    by_cases hlt : 0 < k
    · obtain ⟨j, rfl⟩ : ∃ j, k = j + 1 := ⟨k - 1, by omega⟩
      obtain ⟨b, hb⟩ : ∃ b, bitB n j = b := ⟨_, rfl⟩
      have hqn := hD.out.1 (by omega)
      have hs : (((q : Int) % 2) == 1) = b := by
        rw [← hb]; unfold bitB
        rw [show 11 - j = 12 - (j + 1) from by omega, ← hqn]
        by_cases h1 : q % 2 = 1
        · rw [show (q : Int) % 2 = ((q % 2 : Nat) : Int) from by omega, h1]; rfl
        · have h2 : q % 2 = 0 := by omega
          rw [show (q : Int) % 2 = ((q % 2 : Nat) : Int) from by omega, h2]; rfl
      have e1 : ((j + 1 : Nat) : Int) - 1 = (j : Int) := by omega
      have hq2 : (q : Int) / 2 = ((q / 2 : Nat) : Int) := by omega
      have c1 : ∃ u, wr.cell? ⟨w.heap.size, j, none⟩ = some u := by
        rw [hD.out.2.2.1.cell]
        exact ⟨_, Array.getElem?_eq_getElem (by simp [encB, hD.out.2.1]; omega)⟩
      obtain ⟨u, c1⟩ := c1
      have f1 := hD.out.2.2.1.frozen j
      have HN : Hid ((j ≠ 0 → q / 2 = n / 2 ^ (12 - j)) ∧ (vs.set j b).length = 12 ∧ Blk (wr.setCell ⟨w.heap.size, j, none⟩ (.bool b)) w.heap.size 4 (encB (vs.set j b)).toArray ∧ ∀ i, j ≤ i → i < 12 → (vs.set j b)[i]? = some (bitB n i)) := by
        refine ⟨fun h0 => ?_, by rw [List.length_set]; exact hD.out.2.1, blk_bits hD.out.2.2.1 b, fun i h1 h2 => ?_⟩
        · rw [hqn, Nat.div_div_eq_div_mul, ← Nat.pow_succ, show (12 - (j + 1)).succ = 12 - j from by omega]
        · by_cases e : j = i
          · subst e; rw [List.getElem?_set_self (by rw [hD.out.2.1]; exact h2), hb]
          · rw [List.getElem?_set_ne e]; exact hD.out.2.2.2 i (by omega) h2
      rw [e1]
      clear hb hD hqn e1
      have HQ2 := Lib.hid hq2
      clear hq2
      go_wp2
      go_roundw
      case rel => exact ⟨j, q / 2, vs.set j b, by omega, by rw [← HQ2.out], rfl, by omega, hE.setNew (Nat.le_refl _) _, HN.out⟩
      case measure => simp [intOf]
    · obtain rfl : k = 0 := by omega
      have HF : Hid (vs = bitsN n) := bitsN_of hD.out.2.1 fun j hj => hD.out.2.2.2 j (Nat.zero_le _) hj
      have HB := Lib.hid hD.out.2.2.1
      clear hD
      go_wp2
      go_ret
      obtain rfl := HF.out
      exact ⟨_, rfl, HB.out.got (by simp [encB, bitsN_len]) (Nat.le_refl _), hE⟩

set_option maxHeartbeats 1000000 in
theorem numberOf_any (A : Option Addr) (cap : Nat) (vs : List Bool) (w : World) (h : Seg w 1 A 12 (encB vs)) :
    Calls Try.prog 56 #[.slice A 12 cap] w fun e w' => e = .returned (.int .i64 (numB vs : Int)) ∧ w = w' := by
  have HL := Lib.hid h.lenB
  go_enter Try.func56, Try.ntmps56
  go_wp2_with fail
  go_loop [3, 8] (fun q i => ∃ (k m : Nat), k ≤ 12 ∧ i = .int .i64 k ∧ q = .int .i64 m ∧ m < 4096 ∧ Hid (m = numB (vs.take k))) (fun _ i => 12 - (intOf i).toNat)
  case atStart => exact ⟨0, 0, by omega, rfl, rfl, by omega, rfl⟩
  case round =>
    obtain ⟨k, m, hk, rfl, rfl, hm, hD⟩ := hrel
    by_cases hlt : k < 12
    · obtain ⟨b, off, x, rfl, hx, c1⟩ := h.bool hlt
      have HT : Hid (numB (vs.take (k + 1)) = 2 * m + (if x = true then 1 else 0)) := by rw [Hid, take_of_get _ _ _ hx, numB_snoc, ← hD.out]
      have hm2 : m < 2 ^ k := by
        have := numB_lt (vs.take k)
        rw [List.length_take, HL.out, Nat.min_eq_left (by omega), ← hD.out] at this; exact this
      have hp : 2 ^ k ≤ 2048 := by
        have := Nat.pow_le_pow_right (n := 2) (by omega) (show k ≤ 11 by omega); simpa using this
      have hm3 : m < 2048 := by omega
      clear hx hm2 hp h
      cases x
      · go_wp2
        go_round
        case rel => exact ⟨k + 1, 2 * m, by omega, by go_num, by go_num, by omega, by rw [Hid, HT.out]; rfl⟩
        case measure => simp [intOf]; omega
      · go_wp2
        go_round
        case rel => exact ⟨k + 1, 2 * m + 1, by omega, by go_num, by go_num, by omega, by rw [Hid, HT.out]; rfl⟩
        case measure => simp [intOf]; omega
    · obtain rfl : k = 12 := by omega
      have HF : Hid (m = numB vs) := by rw [Hid, hD.out, List.take_of_length_le (by rw [HL.out]; omega)]
      clear h
      go_wp2
      go_ret
      exact ⟨ret_i (by rw [HF.out]), rfl⟩

set_option maxHeartbeats 1000000 in
theorem l5Number_any (A : Option Addr) (cap : Nat) (vs : List Bool) (w : World) (h : Seg w 1 A 12 (encB vs)) :
    Calls Try.prog 57 #[.slice A 12 cap] w fun e w' => e = .returned (.int .i64 (numB vs : Int)) ∧ w = w' := by
  have HL := Lib.hid h.lenB
  go_enter Try.func57, Try.ntmps57
  go_wp2_with fail
  go_loop [3, 4] (fun q i => ∃ (k m : Nat), k ≤ 12 ∧ i = .int .i64 k ∧ q = .int .i64 m ∧ m < 4096 ∧ Hid (m = numB (vs.take k))) (fun _ i => 12 - (intOf i).toNat)
  case atStart => exact ⟨0, 0, by omega, rfl, rfl, by omega, rfl⟩
  case round =>
    obtain ⟨k, m, hk, rfl, rfl, hm, hD⟩ := hrel
    by_cases hlt : k < 12
    · obtain ⟨b, off, x, rfl, hx, c1⟩ := h.bool hlt
      have HT : Hid (numB (vs.take (k + 1)) = 2 * m + (if x = true then 1 else 0)) := by rw [Hid, take_of_get _ _ _ hx, numB_snoc, ← hD.out]
      have hm2 : m < 2 ^ k := by
        have := numB_lt (vs.take k)
        rw [List.length_take, HL.out, Nat.min_eq_left (by omega), ← hD.out] at this; exact this
      have hp : 2 ^ k ≤ 2048 := by
        have := Nat.pow_le_pow_right (n := 2) (by omega) (show k ≤ 11 by omega); simpa using this
      have hm3 : m < 2048 := by omega
      clear hx hm2 hp h
      cases x
      · go_wp2
        go_round
        case rel => exact ⟨k + 1, 2 * m, by omega, by go_num, by go_num, by omega, by rw [Hid, HT.out]; rfl⟩
        case measure => simp [intOf]; omega
      · go_wp2
        go_round
        case rel => exact ⟨k + 1, 2 * m + 1, by omega, by go_num, by go_num, by omega, by rw [Hid, HT.out]; rfl⟩
        case measure => simp [intOf]; omega
    · obtain rfl : k = 12 := by omega
      have HF : Hid (m = numB vs) := by rw [Hid, hD.out, List.take_of_length_le (by rw [HL.out]; omega)]
      clear h
      go_wp2
      go_ret
      exact ⟨ret_i (by rw [HF.out]), rfl⟩

set_option maxRecDepth 100000 in
set_option maxHeartbeats 2000000 in
theorem specCnt_any (A : Option Addr) (n cap : Nat) (cs : List Cn) (w : World) (hn : n ≤ maxLen) (h : SegC w A n cs) :
    Calls Try.prog 23 #[.slice A n cap] w fun e w' => e = .returned (.int .i64 (cnI cs)) ∧ Ext w w' := by
  have HS := Lib.hid h
  clear h
  by_cases hv : probB cs = true
  · have HV := Lib.hid hv
    have HO : Hid (cnI cs = (cntN cs 4096 : Int)) := by unfold cnI Hid; rw [if_pos hv]
    clear hv
    go_enter Try.func23, Try.ntmps23
    go_wp2_with fail
    refine (calls_val (specProbV_any A n cap cs _ hn HS.out) (congrArg Value.bool HV.out)).mono ?_
    rintro e w1 ⟨rfl, hE1⟩
    go_wp2_with fail
    go_loopw [3, 4] (fun q i wr => ∃ (k m : Nat), k ≤ 4096 ∧ i = .int .i64 k ∧ q = .int .i64 m ∧ m ≤ k ∧ Ext w wr ∧ Hid (m = cntN cs k)) (fun _ i _ => 4096 - (intOf i).toNat)
    case atStart => exact ⟨0, 0, by omega, rfl, rfl, by omega, hE1, rfl⟩
    case round =>
      obtain ⟨k, m, hk, rfl, rfl, hm, hE, hD⟩ := hrel
      by_cases hlt : k < 4096
      · obtain ⟨g, hg⟩ : ∃ g, goodN cs k = g := ⟨_, rfl⟩
        have HG : Hid (cs.all (holdC (bitsN k)) = g) := hg
        have HC : Hid (cntN cs (k + 1) = m + (if g = true then 1 else 0)) := by rw [Hid, cntN_succ, hg, ← hD.out]
        clear hg
        go_wp2_with fail
        refine (l5Values_any k _ hlt).mono ?_
        rintro e w2 ⟨A2, rfl, hG2, hE2⟩
        have HG2 := Lib.hid hG2
        clear hG2
        go_wp2_with fail
        refine (calls_val (l3All_any A n cap cs A2 12 (bitsN k) _ hn (HS.out.ext (hE.trans hE2)) (probB_all HV.out) HG2.out.seg) (congrArg Value.bool HG.out)).mono ?_
        rintro e w3 ⟨rfl, hE3⟩
        cases g
        · go_wp2
          go_roundw
          case rel => exact ⟨k + 1, m, by omega, by go_num, rfl, by omega, (hE.trans hE2).trans hE3, by rw [Hid, HC.out]; rfl⟩
          case measure => simp [intOf]; omega
        · go_wp2
          go_roundw
          case rel => exact ⟨k + 1, m + 1, by omega, by go_num, by go_num, by omega, (hE.trans hE2).trans hE3, by rw [Hid, HC.out]; rfl⟩
          case measure => simp [intOf]; omega
      · obtain rfl : k = 4096 := by omega
        go_wp2
        go_ret
        exact ⟨ret_i (by rw [HO.out, hD.out]), hE⟩
  · have hf : probB cs = false := by simpa using hv
    have HV := Lib.hid hf
    have HO : Hid (cnI cs = 0) := by unfold cnI Hid; rw [if_neg hv]
    clear hv hf
    go_enter Try.func23, Try.ntmps23
    go_wp2_with fail
    refine (calls_val (specProbV_any A n cap cs _ hn HS.out) (congrArg Value.bool HV.out)).mono ?_
    rintro e w1 ⟨rfl, hE1⟩
    go_wp2
    go_ret
    exact ⟨ret_i (by rw [HO.out]), hE1⟩

set_option maxRecDepth 100000 in
set_option maxHeartbeats 2000000 in
theorem implCnt_any (A : Option Addr) (n cap : Nat) (cs : List Cn) (w : World) (hn : n ≤ maxLen) (h : SegC w A n cs) :
    Calls Try.prog 22 #[.slice A n cap] w fun e w' => e = .returned (.int .i64 (cnI cs)) ∧ Ext w w' := by
  have HS := Lib.hid h
  clear h
  by_cases hv : probB cs = true
  · have HV := Lib.hid hv
    have HO : Hid (cnI cs = (cntN cs 4096 : Int)) := by unfold cnI Hid; rw [if_pos hv]
    clear hv
    go_enter Try.func22, Try.ntmps22
    go_wp2_with fail
    refine (calls_val (implProbV_any A n cap cs _ hn HS.out) (congrArg Value.bool HV.out)).mono ?_
    rintro e w1 ⟨rfl, hE1⟩
    go_wp2_with fail
    go_loopw [3, 8] (fun q i wr => ∃ (k m : Nat), k ≤ 4096 ∧ i = .int .i64 k ∧ q = .int .i64 m ∧ m ≤ k ∧ Ext w wr ∧ Hid (m = cntN cs k)) (fun _ i _ => 4096 - (intOf i).toNat)
    case atStart => exact ⟨0, 0, by omega, rfl, rfl, by omega, hE1, rfl⟩
    case round =>
      obtain ⟨k, m, hk, rfl, rfl, hm, hE, hD⟩ := hrel
      by_cases hlt : k < 4096
      · obtain ⟨g, hg⟩ : ∃ g, goodN cs k = g := ⟨_, rfl⟩
        have HG : Hid (cs.all (holdC (bitsN k)) = g) := hg
        have HC : Hid (cntN cs (k + 1) = m + (if g = true then 1 else 0)) := by rw [Hid, cntN_succ, hg, ← hD.out]
        clear hg
        go_wp2_with fail
        refine (numbered_any k _ hlt).mono ?_
        rintro e w2 ⟨A2, rfl, hG2, hE2⟩
        have HG2 := Lib.hid hG2
        clear hG2
        go_wp2_with fail
        refine (calls_val (satisfies_any A n cap cs A2 12 (bitsN k) _ hn (HS.out.ext (hE.trans hE2)) (probB_all HV.out) HG2.out.seg) (congrArg Value.bool HG.out)).mono ?_
        rintro e w3 ⟨rfl, hE3⟩
        cases g
        · go_wp2
          go_roundw
          case rel => exact ⟨k + 1, m, by omega, by go_num, rfl, by omega, (hE.trans hE2).trans hE3, by rw [Hid, HC.out]; rfl⟩
          case measure => simp [intOf]; omega
        · go_wp2
          go_roundw
          case rel => exact ⟨k + 1, m + 1, by omega, by go_num, by go_num, by omega, (hE.trans hE2).trans hE3, by rw [Hid, HC.out]; rfl⟩
          case measure => simp [intOf]; omega
      · obtain rfl : k = 4096 := by omega
        go_wp2
        go_ret
        exact ⟨ret_i (by rw [HO.out, hD.out]), hE⟩
  · have hf : probB cs = false := by simpa using hv
    have HV := Lib.hid hf
    have HO : Hid (cnI cs = 0) := by unfold cnI Hid; rw [if_neg hv]
    clear hv hf
    go_enter Try.func22, Try.ntmps22
    go_wp2_with fail
    refine (calls_val (implProbV_any A n cap cs _ hn HS.out) (congrArg Value.bool HV.out)).mono ?_
    rintro e w1 ⟨rfl, hE1⟩
    go_wp2
    go_ret
    exact ⟨ret_i (by rw [HO.out]), hE1⟩

theorem nxtN_yes {cs : List Cn} {f k : Nat} (h : goodN cs k = true) : nxtN cs (f + 1) k = some k := by rw [nxtN, if_pos h]
theorem nxtN_no {cs : List Cn} {f k : Nat} (h : goodN cs k = false) : nxtN cs (f + 1) k = nxtN cs f (k + 1) := by rw [nxtN, if_neg (by rw [h]; simp)]
/-- values in memory of the call's own, and whether they are any -/
def RetVB (vs : List Bool) (ok : Bool) (w : World) (e : Ending) (w' : World) : Prop :=
  ∃ A n cap, e = .returned (.tuple #[.slice A n cap, .bool ok]) ∧ vs.length = n ∧ Got w w' 1 A n (encB vs) ∧ Ext w w'
theorem RetVB.some_ {cs : List Cn} {vs : List Bool} {w w1 w2 : World} {k : Nat} {A : Option Addr} (ho : nsOk cs vs = true) (hx : nxF cs vs = some k) (hE : Ext w w1) (hG : Got w1 w2 1 A 12 (encB (bitsN k))) (hE2 : Ext w1 w2) :
    RetVB (nsT cs vs) (nsB cs vs) w (.returned (.tuple #[.slice A 12 12, .bool true])) w2 := by
  have e1 : nsB cs vs = true := by unfold nsB; rw [ho, hx]; rfl
  have e2 : nsT cs vs = bitsN k := by unfold nsT; rw [if_pos ho, hx]
  rw [e1, e2]
  exact ⟨A, 12, 12, rfl, bitsN_len k, hG.from_ hE, hE.trans hE2⟩
theorem RetVB.none_ {cs : List Cn} {vs : List Bool} {w w1 : World} {A : Option Addr} (hb : nsB cs vs = false) (hE : Ext w w1) :
    RetVB (nsT cs vs) (nsB cs vs) w (.returned (.tuple #[.slice A 0 0, .bool false])) w1 := by
  have e2 : nsT cs vs = [] := by
    unfold nsB at hb; unfold nsT
    split
    · rename_i ho; rw [ho, Bool.true_and] at hb
      cases hx : nxF cs vs with
      | none => rfl
      | some k => rw [hx] at hb; cases hb
    · rfl
  rw [hb, e2]
  exact ⟨A, 0, 0, rfl, rfl, Got.nil' _ _ _ _, hE⟩

set_option maxRecDepth 100000 in
set_option maxHeartbeats 2000000 in
theorem specNs_any (A : Option Addr) (n cap : Nat) (cs : List Cn) (B : Option Addr) (m capb : Nat) (vs : List Bool) (w : World) (hn : n ≤ maxLen) (h : SegC w A n cs) (hm : m ≤ maxLen) (hb : Seg w 1 B m (encB vs)) :
    Calls Try.prog 28 #[.slice A n cap, .slice B m capb] w fun e w' => RetVB (nsT cs vs) (nsB cs vs) w e w' := by
  have HL := Lib.hid hb.lenB
  have HS := Lib.hid h
  have HB := Lib.hid hb
  clear h hb
  unfold maxLen at hm
  by_cases hv : probB cs = true
  · have HV := Lib.hid hv
    by_cases h12 : m = 12
    · subst h12
      have HO : Hid (nsOk cs vs = true) := by unfold nsOk Hid; rw [hv, HL.out]; rfl
      clear hv
      have hnb : numB vs < 4096 := by have := numB_lt vs; rw [HL.out] at this; exact this
      obtain ⟨k0, hk0⟩ : ∃ k0, numB vs = k0 := ⟨_, rfl⟩
      rw [hk0] at hnb
      have HK0 := Lib.hid hk0
      clear hk0
      go_enter Try.func28, Try.ntmps28
      go_wp2_with fail
      refine (calls_val (specProbV_any A n cap cs _ hn HS.out) (congrArg Value.bool HV.out)).mono ?_
      rintro e w1 ⟨rfl, hE1⟩
      go_wp2_with fail
      refine (calls_val (l5Number_any B capb vs _ (HB.out.ext hE1)) (congrArg (fun k : Nat => Value.int .i64 (k : Int)) HK0.out)).mono ?_
      rintro e w2 ⟨rfl, rfl⟩
      go_wp2_with fail
      go_loopw [6] (fun i wr => ∃ (k : Nat), k ≤ 4096 ∧ i = .int .i64 k ∧ Ext w wr ∧ Hid (nxF cs vs = nxtN cs (4096 - k) k)) (fun i _ => 4096 - (intOf i).toNat)
      case atStart => exact ⟨k0, by omega, rfl, hE1, by rw [Hid, nxF, HK0.out]⟩
      case round =>
        obtain ⟨k, hk, rfl, hE, hD⟩ := hrel
        by_cases hlt : k < 4096
        · obtain ⟨f, hf⟩ : ∃ f, 4096 - k = f + 1 := ⟨4096 - k - 1, by omega⟩
          have hD2 : nxF cs vs = nxtN cs (f + 1) k := by rw [← hf]; exact hD.out
          have hf2 : f = 4096 - (k + 1) := by omega
          have HF2 := Lib.hid hf2
          by_cases hg : goodN cs k = true
          · have HG : Hid (cs.all (holdC (bitsN k)) = true) := hg
            have HX : Hid (nxF cs vs = some k) := by rw [Hid, hD2, nxtN_yes hg]
            clear hg hD2 hD hf hf2
            go_wp2_with fail
            refine (l5Values_any k _ hlt).mono ?_
            rintro e w3 ⟨A2, rfl, hG2, hE2⟩
            have HG2 := Lib.hid hG2
            clear hG2
            go_wp2_with fail
            refine (calls_val (l3All_any A n cap cs A2 12 (bitsN k) _ hn (HS.out.ext (hE.trans hE2)) (probB_all HV.out) HG2.out.seg) (congrArg Value.bool HG.out)).mono ?_
            rintro e w4 ⟨rfl, hE3⟩
            go_wp2_with fail
            refine (l5Values_any k _ hlt).mono ?_
            rintro e w5 ⟨A5, rfl, hG5, hE5⟩
            have HR := Lib.hid (RetVB.some_ HO.out HX.out ((hE.trans hE2).trans hE3) hG5 hE5)
            clear hG5
            go_wp2
            go_ret2
            exact HR.out
          · have hg' : goodN cs k = false := by simpa using hg
            have HG : Hid (cs.all (holdC (bitsN k)) = false) := hg'
            have HX : Hid (nxF cs vs = nxtN cs (4096 - (k + 1)) (k + 1)) := by rw [Hid, hD2, nxtN_no hg', HF2.out]
            clear hg hg' hD2 hD hf hf2
            go_wp2_with fail
            refine (l5Values_any k _ hlt).mono ?_
            rintro e w3 ⟨A2, rfl, hG2, hE2⟩
            have HG2 := Lib.hid hG2
            clear hG2
            go_wp2_with fail
            refine (calls_val (l3All_any A n cap cs A2 12 (bitsN k) _ hn (HS.out.ext (hE.trans hE2)) (probB_all HV.out) HG2.out.seg) (congrArg Value.bool HG.out)).mono ?_
            rintro e w4 ⟨rfl, hE3⟩
            go_wp2
            go_roundw
            case rel => exact ⟨k + 1, by omega, by go_num, (hE.trans hE2).trans hE3, HX.out⟩
            case measure => simp [intOf]; omega
        · obtain rfl : k = 4096 := by omega
          have HX : Hid (nsB cs vs = false) := by unfold nsB Hid; rw [hD.out, Nat.sub_self, nxtN]; simp
          clear hD
          go_wp2
          go_ret2
          exact RetVB.none_ HX.out (hE.alloc _)
    · have HO : Hid (nsB cs vs = false) := by unfold nsB nsOk Hid; rw [HL.out, decide_eq_false h12]; simp
      have hne : ((m : Int) != 12) = true := by simp; omega
      clear hv h12
      go_enter Try.func28, Try.ntmps28
      go_wp2_with fail
      refine (calls_val (specProbV_any A n cap cs _ hn HS.out) (congrArg Value.bool HV.out)).mono ?_
      rintro e w1 ⟨rfl, hE1⟩
      go_wp2
      go_ret2
      exact RetVB.none_ HO.out (hE1.alloc _)
  · have hf : probB cs = false := by simpa using hv
    have HV := Lib.hid hf
    have HO : Hid (nsB cs vs = false) := by unfold nsB nsOk Hid; rw [hf]; rfl
    clear hv hf
    go_enter Try.func28, Try.ntmps28
    go_wp2_with fail
    refine (calls_val (specProbV_any A n cap cs _ hn HS.out) (congrArg Value.bool HV.out)).mono ?_
    rintro e w1 ⟨rfl, hE1⟩
    go_wp2
    go_ret2
    exact RetVB.none_ HO.out (hE1.alloc _)

set_option maxRecDepth 100000 in
set_option maxHeartbeats 2000000 in
theorem implNs_any (A : Option Addr) (n cap : Nat) (cs : List Cn) (B : Option Addr) (m capb : Nat) (vs : List Bool) (w : World) (hn : n ≤ maxLen) (h : SegC w A n cs) (hm : m ≤ maxLen) (hb : Seg w 1 B m (encB vs)) :
    Calls Try.prog 26 #[.slice A n cap, .slice B m capb] w fun e w' => RetVB (nsT cs vs) (nsB cs vs) w e w' := by
  have HL := Lib.hid hb.lenB
  have HS := Lib.hid h
  have HB := Lib.hid hb
  clear h hb
  unfold maxLen at hm
  by_cases hv : probB cs = true
  · have HV := Lib.hid hv
    by_cases h12 : m = 12
    · subst h12
      have HO : Hid (nsOk cs vs = true) := by unfold nsOk Hid; rw [hv, HL.out]; rfl
      clear hv
      have hnb : numB vs < 4096 := by have := numB_lt vs; rw [HL.out] at this; exact this
      obtain ⟨k0, hk0⟩ : ∃ k0, numB vs = k0 := ⟨_, rfl⟩
      rw [hk0] at hnb
      have HK0 := Lib.hid hk0
      clear hk0
      go_enter Try.func26, Try.ntmps26
      go_wp2_with fail
      refine (calls_val (implProbV_any A n cap cs _ hn HS.out) (congrArg Value.bool HV.out)).mono ?_
      rintro e w1 ⟨rfl, hE1⟩
      go_wp2_with fail
      refine (calls_val (numberOf_any B capb vs _ (HB.out.ext hE1)) (congrArg (fun k : Nat => Value.int .i64 (k : Int)) HK0.out)).mono ?_
      rintro e w2 ⟨rfl, rfl⟩
      go_wp2_with fail
      go_loopw [6] (fun i wr => ∃ (k : Nat), k ≤ 4096 ∧ i = .int .i64 k ∧ Ext w wr ∧ Hid (nxF cs vs = nxtN cs (4096 - k) k)) (fun i _ => 4096 - (intOf i).toNat)
      case atStart => exact ⟨k0, by omega, rfl, hE1, by rw [Hid, nxF, HK0.out]⟩
      case round =>
        obtain ⟨k, hk, rfl, hE, hD⟩ := hrel
        by_cases hlt : k < 4096
        · obtain ⟨f, hf⟩ : ∃ f, 4096 - k = f + 1 := ⟨4096 - k - 1, by omega⟩
          have hD2 : nxF cs vs = nxtN cs (f + 1) k := by rw [← hf]; exact hD.out
          have hf2 : f = 4096 - (k + 1) := by omega
          have HF2 := Lib.hid hf2
          by_cases hg : goodN cs k = true
          · have HG : Hid (cs.all (holdC (bitsN k)) = true) := hg
            have HX : Hid (nxF cs vs = some k) := by rw [Hid, hD2, nxtN_yes hg]
            clear hg hD2 hD hf hf2
            go_wp2_with fail
            refine (numbered_any k _ hlt).mono ?_
            rintro e w3 ⟨A2, rfl, hG2, hE2⟩
            have HG2 := Lib.hid hG2
            clear hG2
            go_wp2_with fail
            refine (calls_val (satisfies_any A n cap cs A2 12 (bitsN k) _ hn (HS.out.ext (hE.trans hE2)) (probB_all HV.out) HG2.out.seg) (congrArg Value.bool HG.out)).mono ?_
            rintro e w4 ⟨rfl, hE3⟩
            have HR := Lib.hid (RetVB.some_ HO.out HX.out hE (HG2.out.later hE3) (hE2.trans hE3))
            go_wp2
            go_ret2
            exact HR.out
          · have hg' : goodN cs k = false := by simpa using hg
            have HG : Hid (cs.all (holdC (bitsN k)) = false) := hg'
            have HX : Hid (nxF cs vs = nxtN cs (4096 - (k + 1)) (k + 1)) := by rw [Hid, hD2, nxtN_no hg', HF2.out]
            clear hg hg' hD2 hD hf hf2
            go_wp2_with fail
            refine (numbered_any k _ hlt).mono ?_
            rintro e w3 ⟨A2, rfl, hG2, hE2⟩
            have HG2 := Lib.hid hG2
            clear hG2
            go_wp2_with fail
            refine (calls_val (satisfies_any A n cap cs A2 12 (bitsN k) _ hn (HS.out.ext (hE.trans hE2)) (probB_all HV.out) HG2.out.seg) (congrArg Value.bool HG.out)).mono ?_
            rintro e w4 ⟨rfl, hE3⟩
            go_wp2
            go_roundw
            case rel => exact ⟨k + 1, by omega, by go_num, (hE.trans hE2).trans hE3, HX.out⟩
            case measure => simp [intOf]; omega
        · obtain rfl : k = 4096 := by omega
          have HX : Hid (nsB cs vs = false) := by unfold nsB Hid; rw [hD.out, Nat.sub_self, nxtN]; simp
          clear hD
          go_wp2
          go_ret2
          exact RetVB.none_ HX.out hE
    · have HO : Hid (nsB cs vs = false) := by unfold nsB nsOk Hid; rw [HL.out, decide_eq_false h12]; simp
      have hne : ((m : Int) != 12) = true := by simp; omega
      clear hv h12
      go_enter Try.func26, Try.ntmps26
      go_wp2_with fail
      refine (calls_val (implProbV_any A n cap cs _ hn HS.out) (congrArg Value.bool HV.out)).mono ?_
      rintro e w1 ⟨rfl, hE1⟩
      go_wp2
      go_ret2
      exact RetVB.none_ HO.out hE1
  · have hf : probB cs = false := by simpa using hv
    have HV := Lib.hid hf
    have HO : Hid (nsB cs vs = false) := by unfold nsB nsOk Hid; rw [hf]; rfl
    clear hv hf
    go_enter Try.func26, Try.ntmps26
    go_wp2_with fail
    refine (calls_val (implProbV_any A n cap cs _ hn HS.out) (congrArg Value.bool HV.out)).mono ?_
    rintro e w1 ⟨rfl, hE1⟩
    go_wp2
    go_ret2
    exact RetVB.none_ HO.out hE1

end Go.Proofs.Ytmbdfnimmjomfaa
