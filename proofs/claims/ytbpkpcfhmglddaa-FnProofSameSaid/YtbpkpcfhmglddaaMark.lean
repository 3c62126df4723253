/- The law's own marks: markTermS, heldTermS, markConstraint, heldConstraint: memory of the call's own is written and read again. -/
import Derived.Test.YtbpkpcfhmglddaaMemD
namespace Go.Proofs.Ytbpkpcfhmglddaa
open Go.RowKit

/-- the marks on n terms, from k on -/
def marksT (k : Int) : Nat → List Tm
  | 0 => []
  | n + 1 => marksT k n ++ [(k + 2 * n, k + 2 * n + 1)]

theorem marksT_len (k : Int) : ∀ n, (marksT k n).length = n := by
  intro n; induction n with
  | zero => rfl
  | succ n ih => simp [marksT, ih]

theorem marksT_get (k : Int) : ∀ n j, j < n → (marksT k n)[j]? = some (k + 2 * (j : Int), k + 2 * (j : Int) + 1) := by
  intro n; induction n with
  | zero => intro j h; omega
  | succ n ih =>
    intro j hj
    rcases Nat.lt_or_ge j n with h | h
    · rw [marksT, List.getElem?_append_left (by rw [marksT_len]; exact h)]; exact ih j h
    · obtain rfl : j = n := by omega
      rw [marksT, List.getElem?_append_right (by rw [marksT_len]; exact Nat.le_refl _), marksT_len]
      simp

theorem encT_set (a : List Tm) (t u : Tm) (b : List Tm) (j : Nat) (hj : a.length = j) :
    ((encT (a ++ t :: b)).set (j * 2) (.int .i64 u.1)).set (j * 2 + 1) (.int .i64 u.2) = encT (a ++ u :: b) := by
  subst hj
  rw [encT_append, encT_append]
  have hl := encT_length a
  rw [List.set_append_right _ _ (by omega), List.set_append_right _ _ (by omega), hl]
  simp [encT]

/-- one cell of the slice is written -/
theorem Seg.set_ {w : World} {sz n b off i : Nat} {xs : List Value} (h : Seg w sz (some ⟨b, off, none⟩) n xs) (u : Value) : Seg (w.setCell ⟨b, off + i, none⟩ u) sz (some ⟨b, off, none⟩) n (xs.set i u) := by
  refine ⟨by rw [List.length_set]; exact h.1, fun hn => ?_⟩
  obtain ⟨b', off', e, hc⟩ := h.2 hn
  injection e with e; injection e with e1 e2; subst e1; subst e2
  refine ⟨b, off, rfl, fun j v hv => ?_⟩
  rw [List.getElem?_set] at hv
  by_cases hij : i = j
  · subst hij
    rw [if_pos rfl] at hv
    split at hv
    · rename_i hlt
      injection hv with hv
      subst hv
      exact World.cell?_setCell_same w _ _ (hc i _ (List.getElem?_eq_getElem hlt))
    · cases hv
  · rw [if_neg hij] at hv
    rw [World.cell?_setCell_other w _ _ _ (by intro e; injection e with _ e; omega)]
    exact hc j v hv

theorem Free.set_ {w : World} {sz n : Nat} {A : Option Addr} (h : Free w sz A n) (p : Addr) (u : Value) : Free (w.setCell p u) sz A n := by
  intro b off e j hj
  rw [World.frozen?_setCell]
  exact h b off e j hj


def MarkedT (k : Int) (A : Option Addr) (n : Nat) (lo hi : Nat) (w : World) (e : Ending) (w' : World) : Prop :=
  e = .returned (.int .i64 (k + 2 * n)) ∧ Seg w' 2 A n (encT (marksT k n)) ∧ Free w' 2 A n ∧ Kept lo hi w w'

set_option maxHeartbeats 1000000 in
theorem markTermS_any (A : Option Addr) (n cap : Nat) (ts : List Tm) (k : Int) (w : World) (lo hi : Nat) (hn : n ≤ 1048576) (hk0 : 0 ≤ k) (hk1 : k ≤ 70368744177664) (h : Seg w 2 A n (encT ts)) (hf : Free w 2 A n) (hl : Lies lo hi A n) :
    Calls Try.prog 31 #[.slice A n cap, .int .i64 k] w fun e w' => MarkedT k A n lo hi w e w' := by
  have HL := Lib.hid h.lenT
  go_enter Try.func31, Try.ntmps31
  go_wp2_with fail
  go_loopw [1, 5] (fun q i wr => ∃ (j : Nat) (z : Int), j ≤ n ∧ i = .int .i64 j ∧ q = .int .i64 z ∧ z = k + 2 * j ∧ Kept lo hi w wr ∧ Hid (Seg wr 2 A n (encT (marksT k j ++ ts.drop j))) ∧ Hid (Free wr 2 A n)) (fun _ i _ => n - (intOf i).toNat)
  case atStart => exact ⟨0, k, Nat.zero_le _, rfl, rfl, by omega, Kept.refl _ _ _, h, hf⟩
  case round =>
    obtain ⟨j, z, hj, rfl, rfl, hz, hK, hS, hF⟩ := hrel
    have hz0 : 0 ≤ z := by omega
    have hz1 : z ≤ 70368744177664 + 2097152 := by omega
    have HZ := Lib.hid hz
    clear hz
    by_cases hlt : j < n
    · obtain ⟨b, off, c, l, rfl, hx, c1, c2⟩ := hS.out.term hlt
      have f1 := hF.out b off rfl (j * 2) (by omega)
      have f2 := hF.out b off rfl (j * 2 + 1) (by omega)
      rw [← Nat.add_assoc] at f2
      have hjl : j < ts.length := by rw [HL.out]; exact hlt
      have hd : ts.drop j = ts[j] :: ts.drop (j + 1) := List.drop_eq_getElem_cons hjl
      have S2 := (hS.out.set_ (i := j * 2) (.int .i64 z)).set_ (i := j * 2 + 1) (.int .i64 (z + 1))
      rw [hd, encT_set (marksT k j) ts[j] (z, z + 1) (ts.drop (j + 1)) j (marksT_len _ _)] at S2
      have HS2 := Lib.hid S2
      have F2 := Lib.hid ((hF.out.set_ ⟨b, off + j * 2, none⟩ (.int .i64 z)).set_ ⟨b, off + (j * 2 + 1), none⟩ (.int .i64 (z + 1)))
      have hb := hl (by omega) _ rfl
      simp only at hb
      have HB := Lib.hid hb
      clear hx S2 hd hS hF h hf hb
      go_wp2
      go_roundw
      case rel =>
        refine ⟨j + 1, z + 1 + 1, by omega, by go_num, by first | rfl | go_num, by have := HZ.out; omega, (hK.setIn (p := ⟨b, off + j * 2, none⟩) HB.out _).setIn (p := ⟨b, off + j * 2 + 1, none⟩) HB.out _, ?_, F2.out⟩
        have e : marksT k (j + 1) ++ ts.drop (j + 1) = marksT k j ++ (z, z + 1) :: ts.drop (j + 1) := by
          rw [marksT, List.append_assoc, HZ.out]; rfl
        unfold Hid
        rw [e]
        exact HS2.out
      case measure => simp [intOf]; omega
    · obtain rfl : j = n := by omega
      clear h hf
      go_wp2
      go_ret
      have hS' := hS.out
      rw [List.drop_of_length_le (by rw [HL.out]; exact Nat.le_refl _), List.append_nil] at hS'
      exact ⟨ret_i (by have := HZ.out; omega), hS', hF.out, hK⟩


set_option maxHeartbeats 1000000 in
theorem heldTermS_any (A : Option Addr) (n cap : Nat) (k : Int) (w : World) (hn : n ≤ 1048576) (hk0 : 0 ≤ k) (hk1 : k ≤ 70368744177664) (h : Seg w 2 A n (encT (marksT k n))) :
    Calls Try.prog 32 #[.slice A n cap, .int .i64 k] w fun e w' => e = .returned (.int .i64 (k + 2 * n)) ∧ w = w' := by
  go_enter Try.func32, Try.ntmps32
  go_wp2_with fail
  go_loop [1, 5] (fun q i => ∃ (j : Nat) (z : Int), j ≤ n ∧ i = .int .i64 j ∧ q = .int .i64 z ∧ z = k + 2 * j) (fun _ i => n - (intOf i).toNat)
  case atStart => exact ⟨0, k, Nat.zero_le _, rfl, rfl, by omega⟩
  case round =>
    obtain ⟨j, z, hj, rfl, rfl, hz⟩ := hrel
    have hz0 : 0 ≤ z := by omega
    have hz1 : z ≤ 70368744177664 + 2097152 := by omega
    by_cases hlt : j < n
    · obtain ⟨b, off, c, l, rfl, hx, c1, c2⟩ := h.term hlt
      rw [marksT_get k n j hlt, ← hz] at hx
      injection hx with hx
      injection hx with e1 e2
      subst e1; subst e2
      have HZ := Lib.hid hz
      clear hz h
      go_wp2
      go_round
      case rel => exact ⟨j + 1, z + 1 + 1, by omega, by go_num, by first | rfl | go_num, by have := HZ.out; omega⟩
      case measure => simp [intOf]; omega
    · obtain rfl : j = n := by omega
      have HZ := Lib.hid hz
      clear hz h
      go_wp2
      go_ret
      exact ⟨ret_i (by have := HZ.out; omega), rfl⟩


set_option maxHeartbeats 1000000 in
theorem markConstraint_any (A : Option Addr) (n cap : Nat) (ts : List Tm) (bd : Int) (k : Int) (w : World) (lo hi : Nat) (hn : n ≤ 1048576) (hk0 : 0 ≤ k) (hk1 : k ≤ 70368744177664) (h : Seg w 2 A n (encT ts)) (hf : Free w 2 A n) (hl : Lies lo hi A n) :
    Calls Try.prog 12 #[.agg #[.slice A n cap, .int .i64 bd], .int .i64 k] w fun e w' => MarkedT k A n lo hi w e w' := by
  have h1 := h.alloc (.cells #[.slice A n cap, .int .i64 bd] 25)
  have f1 := hf.ext h ((Ext.refl _).alloc (.cells #[.slice A n cap, .int .i64 bd] 25))
  clear h hf
  go_enter Try.func12, Try.ntmps12
  go_wp2_with fail
  refine (markTermS_any A n cap ts k _ lo hi hn hk0 hk1 h1 f1 hl).mono ?_
  rintro e w1 ⟨rfl, hS, hF, hK⟩
  clear h1 f1
  go_wp2
  go_ret
  exact ⟨rfl, hS, hF, ((Kept.refl _ _ _).alloc _).trans hK⟩


set_option maxHeartbeats 1000000 in
theorem heldConstraint_any (A : Option Addr) (n cap : Nat) (bd : Int) (k : Int) (w : World) (hn : n ≤ 1048576) (hk0 : 0 ≤ k) (hk1 : k ≤ 70368744177664) (h : Seg w 2 A n (encT (marksT k n))) :
    Calls Try.prog 13 #[.agg #[.slice A n cap, .int .i64 bd], .int .i64 k] w fun e w' => e = .returned (.int .i64 (k + 2 * n)) ∧ Ext w w' := by
  have hp : ¬ (k + 2 * (n : Int) < 0) := by omega
  go_enter Try.func13, Try.ntmps13
  go_wp2_with fail
  refine (heldTermS_any A n cap k _ hn hk0 hk1 (h.alloc _)).mono ?_
  rintro e w1 ⟨rfl, rfl⟩
  clear h
  go_wp2
  go_ret
  exact ⟨rfl, (Ext.refl _).alloc _⟩

end Go.Proofs.Ytbpkpcfhmglddaa
