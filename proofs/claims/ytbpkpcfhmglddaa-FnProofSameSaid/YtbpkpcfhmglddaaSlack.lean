/- SlackOf, the program's and the reference's: l3State, l3Slack, under, slack. -/
import Derived.Test.YtbpkpcfhmglddaaTot
import Derived.Test.YtbpkpcfhmglddaaEval
import Derived.Test.YtbpkpcfhmglddaaPV
namespace Go.Proofs.Ytbpkpcfhmglddaa
open Go.RowKit

/-- a literal under a partial assignment -/
def stI (p : List Int) (l : Int) : Int := if 0 < l then p.getD (l - 1).toNat 0 else -(p.getD (-l - 1).toNat 0)
def slkT (p : List Int) (ts : List Tm) : Int := (ts.map fun t => if 0 ≤ stI p t.2 then t.1 else 0).sum
theorem slkT_snoc (p : List Int) (ts : List Tm) (t : Tm) : slkT p (ts ++ [t]) = slkT p ts + (if 0 ≤ stI p t.2 then t.1 else 0) := by simp [slkT]
def slB (ts : List Tm) (bd : Int) (p : List Int) : Bool := cvB ts bd && pvB p
def slI (ts : List Tm) (bd : Int) (p : List Int) : Int := if slB ts bd p = true then slkT p ts - bd else 0
theorem stI_pos (p : List Int) (m : Nat) (z : Int) (h : p[m]? = some z) : stI p ((m : Int) + 1) = z := by
  unfold stI
  rw [if_pos (by omega), show ((m : Int) + 1 - 1).toNat = m from by omega, List.getD_eq_getElem?_getD, h]; rfl
theorem stI_neg (p : List Int) (m : Nat) (z : Int) (h : p[m]? = some z) : stI p (-((m : Int) + 1)) = -z := by
  unfold stI
  rw [if_neg (by omega), show (- -((m : Int) + 1) - 1).toNat = m from by omega, List.getD_eq_getElem?_getD, h]; rfl
theorem pvB_at {p : List Int} (h : pvB p = true) : p.length = 12 ∧ ∀ (m : Nat) (z : Int), p[m]? = some z → -1 ≤ z ∧ z ≤ 1 := by
  unfold pvB at h
  rw [Bool.and_eq_true, decide_eq_true_eq] at h
  refine ⟨h.1, fun m z hz => ?_⟩
  have := List.all_eq_true.1 h.2 z (List.mem_of_getElem? hz)
  simpa [inB] using this
theorem slkT_bounds {ts : List Tm} {bd : Int} (h : cvB ts bd = true) (p : List Int) (k : Nat) : 0 ≤ slkT p (ts.take k) ∧ slkT p (ts.take k) ≤ 12000 := by
  have hl := cvB_len h
  have hm : ∀ t ∈ ts, 1 ≤ t.1 ∧ t.1 ≤ 1000 := fun t ht => by
    unfold cvB at h; rw [Bool.and_eq_true] at h
    exact (goodB_mem ts 0 h.1 t ht).2
  have key : ∀ us : List Tm, (∀ t ∈ us, 1 ≤ t.1 ∧ t.1 ≤ 1000) → 0 ≤ slkT p us ∧ slkT p us ≤ 1000 * us.length := by
    intro us
    induction us with
    | nil => intro _; simp [slkT]
    | cons x us ih =>
      intro hu
      have h1 := hu x (by simp)
      have h2 := ih fun t ht => hu t (by simp [ht])
      simp only [slkT, List.map_cons, List.sum_cons, List.length_cons] at h2 ⊢
      split <;> omega
  have h1 := key (ts.take k) fun t ht => hm t (List.mem_of_mem_take ht)
  have h2 : (ts.take k).length ≤ ts.length := by rw [List.length_take]; omega
  omega

set_option maxHeartbeats 1000000 in
theorem l3State_any (A : Option Addr) (cap : Nat) (p : List Int) (l : Int) (w : World) (h : Seg w 1 A 12 (encI p)) (hp : pvB p = true) (hl : litB l = true) :
    Calls Try.prog 98 #[.slice A 12 cap, .int .i64 l] w fun e w' => e = .returned (.int .i64 (stI p l)) ∧ w = w' := by
  obtain ⟨m, hm, rfl | rfl⟩ := lit_cases hl
  · obtain ⟨b, off, x, rfl, hx, c1⟩ := h.int hm
    have HX := Lib.hid (stI_pos p m x hx)
    clear hx h hl
    have hp : (0 : Int) < (m : Int) + 1 := by omega
    go_enter Try.func98, Try.ntmps98
    go_wp2
    go_ret
    exact ⟨ret_i HX.out.symm, rfl⟩
  · obtain ⟨b, off, x, rfl, hx, c1⟩ := h.int hm
    have hxb := (pvB_at hp).2 m x hx
    have HX := Lib.hid (stI_neg p m x hx)
    clear hx h hl hp
    have hp : ¬ (0 : Int) < -((m : Int) + 1) := by omega
    go_enter Try.func98, Try.ntmps98
    go_wp2
    go_ret
    exact ⟨ret_i HX.out.symm, rfl⟩


set_option maxHeartbeats 1000000 in
theorem l3Slack_any (A : Option Addr) (n cap : Nat) (ts : List Tm) (bd : Int) (B : Option Addr) (capb : Nat) (p : List Int) (w : World) (h : Seg w 2 A n (encT ts)) (hv : cvB ts bd = true) (hb : Seg w 1 B 12 (encI p)) (hp : pvB p = true) :
    Calls Try.prog 95 #[.agg #[.slice A n cap, .int .i64 bd], .slice B 12 capb] w fun e w' => e = .returned (.int .i64 (slkT p ts - bd)) ∧ Ext w w' := by
  have HL := Lib.hid h.lenT
  have hn : n ≤ 12 := by have := cvB_len hv; rw [HL.out] at this; exact this
  have HV := Lib.hid hv
  have HP := Lib.hid hp
  have hbd := cvB_bd hv
  clear hv hp
  go_enter Try.func95, Try.ntmps95
  go_wp2_with fail
  go_loopw [5, 6] (fun s i wr => ∃ (k : Nat) (z : Int), k ≤ n ∧ i = .int .i64 k ∧ s = .int .i64 z ∧ -20000 ≤ z ∧ z ≤ 12000 ∧ Ext (w.alloc (.cells #[.slice A n cap, .int .i64 bd] 25)) wr ∧ Hid (z = slkT p (ts.take k) - bd)) (fun _ i _ => n - (intOf i).toNat)
  case atStart => exact ⟨0, -bd, Nat.zero_le _, rfl, rfl, by omega, by omega, Ext.refl _, by unfold Hid; simp [slkT]⟩
  case round =>
    obtain ⟨k, z, hk, rfl, rfl, hz0, hz1, hE, hZ⟩ := hrel
    have B0 := Blk.of1 hE
    have b0 := B0.cell 0
    have b1 := B0.cell 1
    have hB := B0.lt
    clear B0
    by_cases hlt : k < n
    · obtain ⟨b, off, c, l, rfl, hx, c1, c2⟩ := ((h.alloc _).ext hE).term hlt
      obtain ⟨hl, hc1, hc2⟩ := cvB_get HV.out hx
      have HX := Lib.hid hx
      have HLL := Lib.hid hl
      have hsb := slkT_bounds HV.out p (k + 1)
      rw [take_of_get _ _ _ hx, slkT_snoc] at hsb
      have HSB := Lib.hid hsb
      have hbv := Lib.hid ((hb.alloc (.cells #[.slice (some ⟨b, off, none⟩) n cap, .int .i64 bd] 25)).ext hE)
      clear hx h hl hb hsb
      obtain ⟨x, hxx⟩ : ∃ x, Hid (stI p l = x) := ⟨_, rfl⟩
      by_cases hx0 : 0 ≤ x
      · have hzb : z + c ≤ 12000 := by have := HSB.out; simp only [hxx.out, if_pos hx0] at this; have := hZ.out; omega
        go_wp2_with fail
        refine (calls_val (l3State_any B capb p l _ (hbv.out) HP.out HLL.out) (congrArg (Value.int .i64) hxx.out)).mono ?_
        rintro e w1 ⟨rfl, rfl⟩
        go_wp2
        go_roundw
        case rel =>
          refine ⟨k + 1, z + c, by omega, by go_num, by first | rfl | go_num, by omega, by omega, hE, ?_⟩
          rw [take_of_get _ _ _ HX.out, slkT_snoc, hxx.out, if_pos hx0, hZ.out]; unfold Hid; omega
        case measure => simp [intOf]; omega
      · go_wp2_with fail
        refine (calls_val (l3State_any B capb p l _ (hbv.out) HP.out HLL.out) (congrArg (Value.int .i64) hxx.out)).mono ?_
        rintro e w1 ⟨rfl, rfl⟩
        go_wp2
        go_roundw
        case rel =>
          refine ⟨k + 1, z, by omega, by go_num, by first | rfl | go_num, by omega, by omega, hE, ?_⟩
          rw [take_of_get _ _ _ HX.out, slkT_snoc, hxx.out, if_neg (by omega), hZ.out]; unfold Hid; omega
        case measure => simp [intOf]; omega
    · obtain rfl : k = n := by omega
      clear h hb
      go_wp2
      go_ret
      exact ⟨ret_i (by rw [hZ.out, List.take_of_length_le (by rw [HL.out]; omega)]), ((Ext.refl _).alloc _).trans hE⟩



end Go.Proofs.Ytbpkpcfhmglddaa
