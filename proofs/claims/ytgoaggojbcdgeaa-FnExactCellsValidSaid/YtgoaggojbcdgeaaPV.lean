/- PartialValid, the program's and the reference's; slices.IndexFunc and ContainsFunc over integers. -/
import Derived.Test.YtgoaggojbcdgeaaIntS
import Derived.Test.YtgoaggojbcdgeaaInts
import Derived.Shelf.Abstract
namespace Go.Proofs.Ytgoaggojbcdgeaa
open Go.RowKit

def pvB (p : List Int) : Bool := decide (p.length = 12) && p.all fun n => inB n (-1) 1

theorem all_drop {α : Type} (f : α → Bool) (xs : List α) (k : Nat) (x : α) (hx : xs[k]? = some x) (h : xs.all f = (xs.drop k).all f) :
    (f x = true → xs.all f = (xs.drop (k + 1)).all f) ∧ (f x = false → xs.all f = false) := by
  rw [drop_of_get xs k x hx, List.all_cons] at h
  exact ⟨fun e => by rw [h, e, Bool.true_and], fun e => by rw [h, e, Bool.false_and]⟩


/-- the first index at which p holds, or -1 -/
def idxI (p : Int → Bool) (zs : List Int) : Int := match zs.findIdx? p with | some i => (i : Int) | none => -1

theorem findIdx_drop (p : Int → Bool) (zs : List Int) (k : Nat) (z : Int) (hx : zs[k]? = some z) (h : ∀ j u, j < k → zs[j]? = some u → p u = false) :
    (p z = true → zs.findIdx? p = some k) ∧ (p z = false → ∀ j u, j < k + 1 → zs[j]? = some u → p u = false) := by
  constructor
  · intro hz
    rw [List.findIdx?_eq_some_iff_getElem]
    obtain ⟨hk, e⟩ := List.getElem?_eq_some_iff.1 hx
    refine ⟨hk, by rw [e]; exact hz, fun j hj => ?_⟩
    have := h j zs[j] hj (List.getElem?_eq_getElem _)
    simp [this]
  · intro hz j u hj hu
    rcases Nat.lt_or_ge j k with hlt | hge
    · exact h j u hlt hu
    · obtain rfl : j = k := by omega
      rw [hx] at hu; injection hu with hu; subst hu; exact hz

set_option maxRecDepth 100000 in
set_option maxHeartbeats 1000000 in
theorem indexFuncI_any (g : Nat) (p : Int → Bool) (eg : ∀ args w, (callFunc g args).run Try.prog w = .ok (.enter g args) w) (hp : ∀ (z : Int) (W : World), Calls Try.prog g #[.int .i64 z] W fun e w' => e = .returned (.bool (p z)) ∧ Ext W w')
    (A : Option Addr) (n cap : Nat) (zs : List Int) (w : World) (hn : n ≤ maxLen) (h : Seg w 1 A n (encI zs)) :
    Calls Try.prog 123 #[.slice A n cap, .func (.func g) #[] #[]] w fun e w' => e = .returned (.int .i64 (idxI p zs)) ∧ Ext w w' := by
  have HL := Lib.hid h.lenI
  have HP := Lib.hid hp
  clear hp
  unfold maxLen at hn
  go_enter Try.func123, Try.ntmps123
  go_wp2_with fail
  go_loopw [8] (fun i wr => ∃ (k : Nat), k ≤ n ∧ i = .int .i64 k ∧ Ext w wr ∧ Hid (∀ j u, j < k → zs[j]? = some u → p u = false)) (fun i _ => n - (intOf i).toNat)
  case atStart => exact ⟨0, Nat.zero_le _, rfl, Ext.refl _, fun j u hj => absurd hj (by omega)⟩
  case round =>
    obtain ⟨k, hk, rfl, hE, hD⟩ := hrel
    by_cases hlt : k < n
    · obtain ⟨b, off, z, rfl, hx, c1⟩ := (h.ext hE).int hlt
      obtain ⟨D1, D2⟩ := findIdx_drop p zs k z hx hD.out
      have HD1 := Lib.hid D1
      have HD2 := Lib.hid D2
      clear hx hD h D1 D2
      by_cases hz : p z = true
      · have D := Lib.hid (HD1.out hz)
        clear HD1 HD2
        go_wp2_with fail
        refine (HP.out z _).mono ?_
        rintro e w1 ⟨rfl, hE1⟩
        go_wp2
        go_ret
        exact ⟨ret_i (by unfold idxI; rw [D.out]), hE.trans hE1⟩
      · have hf : p z = false := by simpa using hz
        have D := Lib.hid (HD2.out hf)
        clear HD1 HD2 hz
        go_wp2_with fail
        refine (HP.out z _).mono ?_
        rintro e w1 ⟨rfl, hE1⟩
        go_wp2
        go_roundw
        case rel => exact ⟨k + 1, by omega, by go_num, hE.trans hE1, D⟩
        case measure => simp [intOf]; omega
    · obtain rfl : k = n := by omega
      clear h
      have hfin : Hid (idxI p zs = -1) := by
        unfold idxI Hid
        rw [List.findIdx?_eq_none_iff.2]
        intro u hu
        obtain ⟨j, hj, e⟩ := List.mem_iff_getElem.1 hu
        exact hD.out j u (by rw [HL.out] at hj; exact hj) (by rw [← e]; exact List.getElem?_eq_getElem _)
      go_wp2
      go_ret
      exact ⟨ret_i hfin.out.symm, hE⟩

theorem idxI_any (p : Int → Bool) (zs : List Int) : (0 ≤ idxI p zs ↔ zs.any p = true) := by
  unfold idxI
  rw [List.any_eq_true]
  cases h : zs.findIdx? p with
  | some i =>
    simp only
    rw [List.findIdx?_eq_some_iff_getElem] at h
    obtain ⟨hi, hp, _⟩ := h
    exact ⟨fun _ => ⟨zs[i], List.getElem_mem _, hp⟩, fun _ => by omega⟩
  | none =>
    simp only
    rw [List.findIdx?_eq_none_iff] at h
    refine ⟨fun h0 => by omega, fun ⟨x, hx, hpx⟩ => ?_⟩
    rw [h x hx] at hpx; cases hpx

set_option maxHeartbeats 1000000 in
theorem containsFuncI_any (g : Nat) (p : Int → Bool) (eg : ∀ args w, (callFunc g args).run Try.prog w = .ok (.enter g args) w) (hp : ∀ (z : Int) (W : World), Calls Try.prog g #[.int .i64 z] W fun e w' => e = .returned (.bool (p z)) ∧ Ext W w')
    (A : Option Addr) (n cap : Nat) (zs : List Int) (w : World) (hn : n ≤ maxLen) (h : Seg w 1 A n (encI zs)) :
    Calls Try.prog 98 #[.slice A n cap, .func (.func g) #[] #[]] w fun e w' => e = .returned (.bool (zs.any p)) ∧ Ext w w' := by
  have hi := indexFuncI_any g p eg hp A n cap zs w hn h
  have hq := idxI_any p zs
  have HI := Lib.hid hi
  have HQ := Lib.hid hq
  clear hi hq hp h eg
  go_enter Try.func98, Try.ntmps98
  go_wp2_with fail
  refine HI.out.mono ?_
  rintro e w1 ⟨rfl, hE1⟩
  go_wp2
  go_ret
  refine ⟨ret_b ?_, hE1⟩
  have := HQ.out
  cases hz : zs.any p
  · rw [hz] at this
    exact decide_eq_false (fun h => by simpa using this.1 h)
  · rw [hz] at this
    exact decide_eq_true (this.2 rfl)
end Go.Proofs.Ytgoaggojbcdgeaa
