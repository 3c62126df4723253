/- ExtendsPartial, the program's and the reference's. -/
import Derived.Test.YtihbgajlnbchlaaPV
namespace Go.Proofs.Ytihbgajlnbchlaa
open Go.RowKit

/-- values agree with a partial assignment, place by place -/
def agreeB : List Int → List Bool → Bool
  | z :: p, b :: v => (decide (z = 0) || (b == decide (0 < z))) && agreeB p v
  | _, _ => true

def epB (p : List Int) (v : List Bool) : Bool := pvB p && decide (v.length = 12) && agreeB p v

theorem agree_drop (p : List Int) (v : List Bool) (k : Nat) (z : Int) (b : Bool) (hx : p[k]? = some z) (hy : v[k]? = some b) (h : agreeB p v = agreeB (p.drop k) (v.drop k)) :
    ((z = 0 ∨ b = decide (0 < z)) → agreeB p v = agreeB (p.drop (k + 1)) (v.drop (k + 1))) ∧ ((z ≠ 0 ∧ b ≠ decide (0 < z)) → agreeB p v = false) := by
  rw [drop_of_get p k z hx, drop_of_get v k b hy] at h
  simp only [agreeB] at h
  constructor
  · intro e
    rw [h]
    have : (decide (z = 0) || (b == decide (0 < z))) = true := by
      rcases e with e | e <;> simp [e]
    rw [this, Bool.true_and]
  · rintro ⟨e1, e2⟩
    rw [h]
    simp [e1, e2]

theorem pvB_get {p : List Int} (h : pvB p = true) {k : Nat} {z : Int} (hx : p[k]? = some z) : z = -1 ∨ z = 0 ∨ z = 1 := by
  unfold pvB at h
  rw [Bool.and_eq_true] at h
  have := List.all_eq_true.1 h.2 z (List.mem_of_getElem? hx)
  simp only [inB, decide_eq_true_eq] at this
  omega

theorem pvB_len {p : List Int} (h : pvB p = true) : p.length = 12 := by
  unfold pvB at h
  rw [Bool.and_eq_true] at h
  simpa using h.1

set_option maxRecDepth 100000 in
set_option maxHeartbeats 2000000 in
theorem implEP_any (A : Option Addr) (n cap : Nat) (p : List Int) (A' : Option Addr) (n' cap' : Nat) (v : List Bool) (w : World) (hn : n ≤ maxLen) (h : Seg w 1 A n (encI p)) (_hn' : n' ≤ maxLen) (h' : Seg w 1 A' n' (encB v)) :
    Calls Try.prog 19 #[.slice A n cap, .slice A' n' cap'] w fun e w' => e = .returned (.bool (epB p v)) ∧ Ext w w' := by
  have HL := Lib.hid h.lenI
  have HL' := Lib.hid h'.lenB
  by_cases hp : pvB p = true
  · have h12 : n = 12 := by rw [← HL.out]; exact pvB_len hp
    subst h12
    have HP := Lib.hid hp
    by_cases hv : n' = 12
    · subst hv
      go_enter Try.func19, Try.ntmps19
      go_wp2_with fail
      refine (implPV_any A 12 cap p _ hn h).mono ?_
      rintro e w1 ⟨rfl, hE1⟩
      go_wp2_with fail
      go_loopw [17] (fun i wr => ∃ (k : Nat), k ≤ 12 ∧ i = .int .i64 k ∧ Ext w wr ∧ Hid (agreeB p v = agreeB (p.drop k) (v.drop k))) (fun i _ => 12 - (intOf i).toNat)
      case atStart => exact ⟨0, Nat.zero_le _, rfl, hE1, rfl⟩
      case round =>
        obtain ⟨k, hk, rfl, hE, hD⟩ := hrel
        by_cases hlt : k < 12
        · obtain ⟨b, off, z, rfl, hx, c1⟩ := (h.ext hE).int hlt
          obtain ⟨b', off', x, rfl, hx', c1'⟩ := (h'.ext hE).bool hlt
          obtain ⟨D1, D2⟩ := agree_drop p v k z x hx hx' hD.out
          have HD1 := Lib.hid D1
          have HD2 := Lib.hid D2
          have hz := pvB_get HP.out hx
          clear hx hx' hD h h' D1 D2 hp
          rcases hz with rfl | rfl | rfl
          all_goals cases x
          · have D := Lib.hid (HD1.out (by decide))
            clear HD1 HD2
            go_wp2
            go_roundw
            case rel => exact ⟨k + 1, by omega, by go_num, hE, D⟩
            case measure => simp [intOf]; omega
          · have D := Lib.hid (HD2.out (by decide))
            clear HD1 HD2
            go_wp2
            go_ret
            exact ⟨ret_b (by unfold epB; rw [D.out, Bool.and_false]), hE⟩
          · have D := Lib.hid (HD1.out (by decide))
            clear HD1 HD2
            go_wp2
            go_roundw
            case rel => exact ⟨k + 1, by omega, by go_num, hE, D⟩
            case measure => simp [intOf]; omega
          · have D := Lib.hid (HD1.out (by decide))
            clear HD1 HD2
            go_wp2
            go_roundw
            case rel => exact ⟨k + 1, by omega, by go_num, hE, D⟩
            case measure => simp [intOf]; omega
          · have D := Lib.hid (HD2.out (by decide))
            clear HD1 HD2
            go_wp2
            go_ret
            exact ⟨ret_b (by unfold epB; rw [D.out, Bool.and_false]), hE⟩
          · have D := Lib.hid (HD1.out (by decide))
            clear HD1 HD2
            go_wp2
            go_roundw
            case rel => exact ⟨k + 1, by omega, by go_num, hE, D⟩
            case measure => simp [intOf]; omega
        · obtain rfl : k = 12 := by omega
          clear h h' hp
          go_wp2
          go_ret
          refine ⟨ret_b ?_, hE⟩
          unfold epB
          rw [HP.out, hD.out, HL'.out, List.drop_of_length_le (by rw [HL.out]; exact Nat.le_refl _)]
          rfl
    · have hb : ((n' : Int) == 12) = false := by simp; omega
      have hfin : Hid (epB p v = false) := by unfold epB Hid; rw [HL'.out, decide_eq_false hv, Bool.and_false, Bool.false_and]
      clear h'
      go_enter Try.func19, Try.ntmps19
      go_wp2_with fail
      refine (implPV_any A 12 cap p _ hn h).mono ?_
      rintro e w1 ⟨rfl, hE1⟩
      clear h
      go_wp2
      go_ret
      exact ⟨ret_b hfin.out.symm, hE1⟩
  · have hf : pvB p = false := by simpa using hp
    have hfin : Hid (epB p v = false) := by unfold epB Hid; rw [hf, Bool.false_and, Bool.false_and]
    clear hp
    go_enter Try.func19, Try.ntmps19
    go_wp2_with fail
    refine (implPV_any A n cap p _ hn h).mono ?_
    rintro e w1 ⟨rfl, hE1⟩
    clear h h'
    go_wp2
    go_ret
    exact ⟨ret_b hfin.out.symm, hE1⟩

end Go.Proofs.Ytihbgajlnbchlaa
