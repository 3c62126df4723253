/- The sum of the coefficients: l1Total, total, TotalCoef; ConstraintFalse. -/
import Derived.Test.YtbpkpcfhmglddaaCVs
import Derived.Test.YtbpkpcfhmglddaaMemD
namespace Go.Proofs.Ytbpkpcfhmglddaa
open Go.RowKit

def sumT (ts : List Tm) : Int := (ts.map Prod.fst).sum
theorem sumT_nil : sumT [] = 0 := rfl
theorem sumT_snoc (ts : List Tm) (t : Tm) : sumT (ts ++ [t]) = sumT ts + t.1 := by simp [sumT]
theorem goodB_len (ts : List Tm) : ∀ v : Int, goodB v ts = true → v ≤ 12 → (ts.length : Int) + v ≤ 12 := by
  induction ts with
  | nil => intro v _ h; simpa using h
  | cons t ts ih =>
    intro v h hv
    obtain ⟨c, l⟩ := t
    rw [goodB_cons, Bool.and_eq_true, decide_eq_true_eq] at h
    obtain ⟨⟨hl, h1, _⟩, h2⟩ := h
    have ha := absI_pos hl
    have := ih _ h2 ha.2
    simp only [List.length_cons]
    omega
theorem goodB_mem (ts : List Tm) : ∀ v : Int, goodB v ts = true → ∀ t ∈ ts, litB t.2 = true ∧ 1 ≤ t.1 ∧ t.1 ≤ 1000 := by
  induction ts with
  | nil => intro v _ t h; cases h
  | cons x ts ih =>
    intro v h t ht
    obtain ⟨c, l⟩ := x
    rw [goodB_cons, Bool.and_eq_true, decide_eq_true_eq] at h
    obtain ⟨⟨hl, h1, h3⟩, h2⟩ := h
    rcases List.mem_cons.1 ht with rfl | ht
    · exact ⟨hl, h3⟩
    · exact ih _ h2 t ht
theorem cvB_len {ts : List Tm} {bd : Int} (h : cvB ts bd = true) : ts.length ≤ 12 := by
  unfold cvB at h
  rw [Bool.and_eq_true] at h
  have := goodB_len ts 0 h.1 (by omega)
  omega
theorem cvB_get {ts : List Tm} {bd : Int} (h : cvB ts bd = true) {k : Nat} {c l : Int} (hx : ts[k]? = some (c, l)) : litB l = true ∧ 1 ≤ c ∧ c ≤ 1000 := by
  unfold cvB at h
  rw [Bool.and_eq_true] at h
  exact goodB_mem ts 0 h.1 (c, l) (List.mem_of_getElem? hx)
theorem cvB_bd {ts : List Tm} {bd : Int} (h : cvB ts bd = true) : 0 ≤ bd ∧ bd ≤ 20000 := by
  unfold cvB at h
  rw [Bool.and_eq_true] at h
  simpa [inB] using h.2
theorem sumT_bounds {ts : List Tm} {bd : Int} (h : cvB ts bd = true) : 0 ≤ sumT ts ∧ sumT ts ≤ 12000 := by
  have hl := cvB_len h
  have hm : ∀ t ∈ ts, 1 ≤ t.1 ∧ t.1 ≤ 1000 := fun t ht => by
    unfold cvB at h
    rw [Bool.and_eq_true] at h
    exact (goodB_mem ts 0 h.1 t ht).2
  have key : ∀ us : List Tm, (∀ t ∈ us, 1 ≤ t.1 ∧ t.1 ≤ 1000) → 0 ≤ sumT us ∧ sumT us ≤ 1000 * us.length := by
    intro us
    induction us with
    | nil => intro _; simp [sumT]
    | cons x us ih =>
      intro hu
      have h1 := hu x (by simp)
      have h2 := ih fun t ht => hu t (by simp [ht])
      simp only [sumT, List.map_cons, List.sum_cons, List.length_cons] at h2 ⊢
      omega
  have := key ts hm
  omega

set_option maxHeartbeats 1000000 in
theorem l1Total_any (A : Option Addr) (n cap : Nat) (ts : List Tm) (bd : Int) (w : World) (h : Seg w 2 A n (encT ts)) (hv : cvB ts bd = true) :
    Calls Try.prog 75 #[.agg #[.slice A n cap, .int .i64 bd]] w fun e w' => e = .returned (.int .i64 (sumT ts)) ∧ Ext w w' := by
  have HL := Lib.hid h.lenT
  have hn : n ≤ 12 := by have := cvB_len hv; rw [HL.out] at this; exact this
  have HV := Lib.hid hv
  clear hv
  go_enter Try.func75, Try.ntmps75
  go_wp2_with fail
  go_loopw [3, 4] (fun s i wr => ∃ (k : Nat) (z : Int), k ≤ n ∧ i = .int .i64 k ∧ s = .int .i64 z ∧ 0 ≤ z ∧ z ≤ 1000 * k ∧ Ext (w.alloc (.cells #[.slice A n cap, .int .i64 bd] 25)) wr ∧ Hid (z = sumT (ts.take k))) (fun _ i _ => n - (intOf i).toNat)
  case atStart => exact ⟨0, 0, Nat.zero_le _, rfl, rfl, by omega, by omega, Ext.refl _, rfl⟩
  case round =>
    obtain ⟨k, z, hk, rfl, rfl, hz0, hz1, hE, hZ⟩ := hrel
    have B0 := Blk.of1 hE
    have b0 := B0.cell 0
    have b1 := B0.cell 1
    clear B0
    by_cases hlt : k < n
    · obtain ⟨b, off, c, l, rfl, hx, c1, c2⟩ := ((h.alloc _).ext hE).term hlt
      obtain ⟨_, hc1, hc2⟩ := cvB_get HV.out hx
      have HX := Lib.hid hx
      clear hx h
      go_wp2
      go_roundw
      case rel =>
        refine ⟨k + 1, z + c, by omega, by go_num, by first | rfl | go_num, by omega, by omega, hE, ?_⟩
        rw [take_of_get _ _ _ HX.out, sumT_snoc, ← hZ.out]; exact rfl
      case measure => simp [intOf]; omega
    · obtain rfl : k = n := by omega
      clear h
      go_wp2
      go_ret
      exact ⟨ret_i (by rw [hZ.out, List.take_of_length_le (by rw [HL.out]; omega)]), ((Ext.refl _).alloc _).trans hE⟩
end Go.Proofs.Ytbpkpcfhmglddaa
