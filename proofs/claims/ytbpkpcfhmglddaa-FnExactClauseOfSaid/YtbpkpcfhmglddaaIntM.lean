/- The law's own marks on slices of integers and of bools: markIntS, heldIntS, markBoolS, heldBoolS. -/
import Derived.Test.YtbpkpcfhmglddaaIntS
import Derived.Test.YtbpkpcfhmglddaaMark
namespace Go.Proofs.Ytbpkpcfhmglddaa
open Go.RowKit

/-- the marks on n elements, from k on -/
def marksInt (k : Int) : Nat → List Int
  | 0 => []
  | n + 1 => marksInt k n ++ [(k + n)]

theorem marksInt_len (k : Int) : ∀ n, (marksInt k n).length = n := by
  intro n; induction n with
  | zero => rfl
  | succ n ih => simp [marksInt, ih]

theorem marksInt_get (k : Int) : ∀ n (j : Nat), j < n → (marksInt k n)[j]? = some (k + j) := by
  intro n; induction n with
  | zero => intro j h; omega
  | succ n ih =>
    intro j hj
    rcases Nat.lt_or_ge j n with h | h
    · rw [marksInt, List.getElem?_append_left (by rw [marksInt_len]; exact h)]; exact ih j h
    · obtain rfl : j = n := by omega
      rw [marksInt, List.getElem?_append_right (by rw [marksInt_len]; exact Nat.le_refl _), marksInt_len]
      simp

theorem encI_set (a : List Int) (t u : Int) (b : List Int) (j : Nat) (hj : a.length = j) : (encI (a ++ t :: b)).set j (.int .i64 u) = encI (a ++ u :: b) := by
  subst hj
  have hl : (encI a).length = a.length := by simp [encI]
  have e : ∀ x y : List Int, encI (x ++ y) = encI x ++ encI y := by simp [encI]
  rw [e, e, List.set_append_right _ _ (by omega), hl]
  simp [encI]


def MarkedInt (k : Int) (A : Option Addr) (n : Nat) (lo hi : Nat) (w : World) (e : Ending) (w' : World) : Prop :=
  e = .returned (.int .i64 (k + n)) ∧ Seg w' 1 A n (encI (marksInt k n)) ∧ Free w' 1 A n ∧ Kept lo hi w w'

set_option maxHeartbeats 1000000 in
theorem markIntS_any (A : Option Addr) (n cap : Nat) (ts : List Int) (k : Int) (w : World) (lo hi : Nat) (hn : n ≤ 1048576) (hk0 : 0 ≤ k) (hk1 : k ≤ 70368744177664) (h : Seg w 1 A n (encI ts)) (hf : Free w 1 A n) (hl : Lies lo hi A n) :
    Calls Try.prog 11 #[.slice A n cap, .int .i64 k] w fun e w' => MarkedInt k A n lo hi w e w' := by
  have HL := Lib.hid h.lenI
  go_enter Try.func11, Try.ntmps11
  go_wp2_with fail
  go_loopw [1, 5] (fun q i wr => ∃ (j : Nat) (z : Int), j ≤ n ∧ i = .int .i64 j ∧ q = .int .i64 z ∧ z = k + j ∧ Kept lo hi w wr ∧ Hid (Seg wr 1 A n (encI (marksInt k j ++ ts.drop j))) ∧ Hid (Free wr 1 A n)) (fun _ i _ => n - (intOf i).toNat)
  case atStart => exact ⟨0, k, Nat.zero_le _, rfl, rfl, by omega, Kept.refl _ _ _, h, hf⟩
  case round =>
    obtain ⟨j, z, hj, rfl, rfl, hz, hK, hS, hF⟩ := hrel
    have hz0 : 0 ≤ z := by omega
    have hz1 : z ≤ 70368744177664 + 2097152 := by omega
    have HZ := Lib.hid hz
    clear hz
    by_cases hlt : j < n
    · obtain ⟨b, off, c, rfl, hx, c1⟩ := hS.out.int hlt
      have f1 := hF.out b off rfl j (by omega)
      have hjl : j < ts.length := by rw [HL.out]; exact hlt
      have hd : ts.drop j = ts[j] :: ts.drop (j + 1) := List.drop_eq_getElem_cons hjl
      have S2 := hS.out.set_ (i := j) (.int .i64 z)
      rw [hd, encI_set (marksInt k j) ts[j] z (ts.drop (j + 1)) j (marksInt_len _ _)] at S2
      have HS2 := Lib.hid S2
      have F2 := Lib.hid (hF.out.set_ ⟨b, off + j, none⟩ (.int .i64 z))
      have hb := hl (by omega) _ rfl
      simp only at hb
      have HB := Lib.hid hb
      clear hx S2 hd hS hF h hf hb
      go_wp2
      go_roundw
      case rel =>
        refine ⟨j + 1, z + 1, by omega, by go_num, by first | rfl | go_num, by have := HZ.out; omega, hK.setIn (p := ⟨b, off + j, none⟩) HB.out _, ?_, F2.out⟩
        have e : marksInt k (j + 1) ++ ts.drop (j + 1) = marksInt k j ++ z :: ts.drop (j + 1) := by
          rw [marksInt, List.append_assoc, HZ.out]; rfl
        unfold Hid
        rw [e]
        exact HS2.out
      case measure => simp [intOf]; omega
    · obtain rfl : j = n := by omega
      clear h hf
      go_wp2
      go_ret
      have hS' := hS.out
      rw [List.drop_of_length_le (by rw [HL.out]; exact Nat.le_refl _), List.append_nil] at hS'
      exact ⟨ret_i (by have := HZ.out; omega), hS', hF.out, hK⟩


/-- the marks on n elements, from k on -/
def marksBool (k : Int) : Nat → List Bool
  | 0 => []
  | n + 1 => marksBool k n ++ [((k + n) % 3 == 0)]

theorem marksBool_len (k : Int) : ∀ n, (marksBool k n).length = n := by
  intro n; induction n with
  | zero => rfl
  | succ n ih => simp [marksBool, ih]

theorem marksBool_get (k : Int) : ∀ n (j : Nat), j < n → (marksBool k n)[j]? = some ((k + j) % 3 == 0) := by
  intro n; induction n with
  | zero => intro j h; omega
  | succ n ih =>
    intro j hj
    rcases Nat.lt_or_ge j n with h | h
    · rw [marksBool, List.getElem?_append_left (by rw [marksBool_len]; exact h)]; exact ih j h
    · obtain rfl : j = n := by omega
      rw [marksBool, List.getElem?_append_right (by rw [marksBool_len]; exact Nat.le_refl _), marksBool_len]
      simp

theorem encB_set (a : List Bool) (t u : Bool) (b : List Bool) (j : Nat) (hj : a.length = j) : (encB (a ++ t :: b)).set j (.bool u) = encB (a ++ u :: b) := by
  subst hj
  have hl : (encB a).length = a.length := by simp [encB]
  have e : ∀ x y : List Bool, encB (x ++ y) = encB x ++ encB y := by simp [encB]
  rw [e, e, List.set_append_right _ _ (by omega), hl]
  simp [encB]



end Go.Proofs.Ytbpkpcfhmglddaa
