/- ProblemValid, the program's and the reference's; slices.IndexFunc and ContainsFunc over constraints. -/
import Derived.Test.YtihbgajlnbchlaaProb
import Derived.Test.YtihbgajlnbchlaaPV
import Derived.Test.YtihbgajlnbchlaaCVs
namespace Go.Proofs.Ytihbgajlnbchlaa
open Go.RowKit

def cvC (c : Cn) : Bool := cvB c.1 c.2
def probB (cs : List Cn) : Bool := decide (cs.length ≤ 400) && cs.all cvC

set_option maxHeartbeats 1000000 in
theorem specProbV_any (A : Option Addr) (n cap : Nat) (cs : List Cn) (w : World) (hn : n ≤ maxLen) (h : SegC w A n cs) :
    Calls Try.prog 64 #[.slice A n cap] w fun e w' => e = .returned (.bool (probB cs)) ∧ Ext w w' := by
  have HL := Lib.hid h.len
  unfold maxLen at hn
  go_enter Try.func64, Try.ntmps64
  go_wp2_with fail
  go_loopw [3] (fun i wr => ∃ (k : Nat), k ≤ n ∧ i = .int .i64 k ∧ Ext w wr ∧ Hid ((cs.all cvC) = (cs.drop k).all cvC)) (fun i _ => n - (intOf i).toNat)
  case atStart => exact ⟨0, Nat.zero_le _, rfl, Ext.refl _, rfl⟩
  case round =>
    obtain ⟨k, hk, rfl, hE, hD⟩ := hrel
    by_cases hlt : k < n
    · obtain ⟨b, off, A', n', cap', ts, bd, rfl, hx, c1, c2, hn', hS'⟩ := (h.ext hE).at_ hlt
      obtain ⟨D1, D2⟩ := all_drop _ cs k _ hx hD.out
      have HD1 := Lib.hid D1
      have HD2 := Lib.hid D2
      have HN := Lib.hid hn'
      clear hx hD h D1 D2 hn'
      generalize hz : cvB ts bd = z
      have HZ := Lib.hid hz; clear hz
      cases z
      · have D := Lib.hid (HD2.out HZ.out)
        clear HD1 HD2
        go_wp2_with fail
        refine (specCV_any A' n' cap' ts bd _ HN.out hS').mono ?_
        rintro e w1 ⟨rfl, hE1⟩
        have HZ' := HZ.out
        rw [HZ']
        go_wp2
        go_ret
        exact ⟨ret_b (by unfold probB; rw [D.out, Bool.and_false]), hE.trans hE1⟩
      · have D := Lib.hid (HD1.out HZ.out)
        clear HD1 HD2
        go_wp2_with fail
        refine (specCV_any A' n' cap' ts bd _ HN.out hS').mono ?_
        rintro e w1 ⟨rfl, hE1⟩
        have HZ' := HZ.out
        rw [HZ']
        go_wp2
        go_roundw
        case rel => exact ⟨k + 1, by omega, by go_num, hE.trans hE1, D⟩
        case measure => simp [intOf]; omega
    · obtain rfl : k = n := by omega
      clear h
      have hall : Hid ((cs.all cvC) = true) := by
        unfold Hid
        rw [hD.out, List.drop_of_length_le (by rw [HL.out]; omega)]; rfl
      have hfin : Hid (probB cs = decide ((k : Int) ≤ 400)) := by
        unfold probB Hid
        rw [hall.out, HL.out, Bool.and_true, Bool.eq_iff_iff]
        simp; omega
      go_wp2
      go_ret
      exact ⟨ret_b hfin.out.symm, hE⟩

/-- the first index at which p holds, or -1 -/
def idxC (p : Cn → Bool) (cs : List Cn) : Int := match cs.findIdx? p with | some i => (i : Int) | none => -1

theorem findIdx_dropC {α : Type} (p : α → Bool) (zs : List α) (k : Nat) (z : α) (hx : zs[k]? = some z) (h : ∀ j u, j < k → zs[j]? = some u → p u = false) :
    (p z = true → zs.findIdx? p = some k) ∧ (p z = false → ∀ j u, j < k + 1 → zs[j]? = some u → p u = false) := by
  constructor
  · intro hz
    rw [List.findIdx?_eq_some_iff_getElem]
    obtain ⟨hk, e⟩ := List.getElem?_eq_some_iff.1 hx
    refine ⟨hk, by rw [e]; exact hz, fun j hj => ?_⟩
    have := h j zs[j] hj (List.getElem?_eq_getElem _)
    simp [this]
  · intro hz j u hj hu
    rcases Nat.lt_or_ge j k with hlt | hge
    · exact h j u hlt hu
    · obtain rfl : j = k := by omega
      rw [hx] at hu; injection hu with hu; subst hu; exact hz

set_option maxRecDepth 100000 in
set_option maxHeartbeats 1000000 in
theorem indexFuncC_any {cs : List Cn} (g : Nat) (X : Array Value) (p : Cn → Bool) (w : World) (eg : ∀ args w, (callFunc g args).run Try.prog w = .ok (.enter g args) w)
    (hp : ∀ (A : Option Addr) (n cap : Nat) (ts : List Tm) (bd : Int) (W : World), n ≤ maxLen → Seg W 2 A n (encT ts) → Ext w W → (ts, bd) ∈ cs → Calls Try.prog g (#[.agg #[.slice A n cap, .int .i64 bd]] ++ X) W fun e w' => e = .returned (.bool (p (ts, bd))) ∧ Ext W w')
    (A : Option Addr) (n cap : Nat) (hn : n ≤ maxLen) (h : SegC w A n cs) :
    Calls Try.prog 104 #[.slice A n cap, .func (.func g) #[] X] w fun e w' => e = .returned (.int .i64 (idxC p cs)) ∧ Ext w w' := by
  have HL := Lib.hid h.len
  have HP := Lib.hid hp
  clear hp
  unfold maxLen at hn
  go_enter Try.func104, Try.ntmps104
  go_wp2_with fail
  go_loopw [8] (fun i wr => ∃ (k : Nat), k ≤ n ∧ i = .int .i64 k ∧ Ext w wr ∧ Hid (∀ j u, j < k → cs[j]? = some u → p u = false)) (fun i _ => n - (intOf i).toNat)
  case atStart => exact ⟨0, Nat.zero_le _, rfl, Ext.refl _, fun j u hj => absurd hj (by omega)⟩
  case round =>
    obtain ⟨k, hk, rfl, hE, hD⟩ := hrel
    by_cases hlt : k < n
    · obtain ⟨b, off, A', n', cap', ts, bd, rfl, hx, c1, c2, hn', hS'⟩ := (h.ext hE).at_ hlt
      obtain ⟨D1, D2⟩ := findIdx_dropC p cs k _ hx hD.out
      have HD1 := Lib.hid D1
      have HD2 := Lib.hid D2
      have HN := Lib.hid hn'
      have HM := Lib.hid (List.mem_of_getElem? hx)
      clear hx hD h D1 D2 hn'
      generalize hz : p (ts, bd) = z
      have HZ := Lib.hid hz; clear hz
      cases z
      · have D := Lib.hid (HD2.out HZ.out)
        clear HD1 HD2
        go_wp2_with fail
        refine (HP.out A' n' cap' ts bd _ HN.out hS' hE HM.out).mono ?_
        rintro e w1 ⟨rfl, hE1⟩
        rw [HZ.out]
        go_wp2
        go_roundw
        case rel => exact ⟨k + 1, by omega, by go_num, hE.trans hE1, D⟩
        case measure => simp [intOf]; omega
      · have D := Lib.hid (HD1.out HZ.out)
        clear HD1 HD2
        go_wp2_with fail
        refine (HP.out A' n' cap' ts bd _ HN.out hS' hE HM.out).mono ?_
        rintro e w1 ⟨rfl, hE1⟩
        rw [HZ.out]
        go_wp2
        go_ret
        exact ⟨ret_i (by unfold idxC; rw [D.out]), hE.trans hE1⟩
    · obtain rfl : k = n := by omega
      clear h
      have hfin : Hid (idxC p cs = -1) := by
        unfold idxC Hid
        rw [List.findIdx?_eq_none_iff.2]
        intro u hu
        obtain ⟨j, hj, e⟩ := List.mem_iff_getElem.1 hu
        exact hD.out j u (by rw [HL.out] at hj; exact hj) (by rw [← e]; exact List.getElem?_eq_getElem _)
      go_wp2
      go_ret
      exact ⟨ret_i hfin.out.symm, hE⟩

theorem idxC_any (p : Cn → Bool) (zs : List Cn) : (0 ≤ idxC p zs ↔ zs.any p = true) := by
  unfold idxC
  rw [List.any_eq_true]
  cases h : zs.findIdx? p with
  | some i =>
    simp only
    rw [List.findIdx?_eq_some_iff_getElem] at h
    obtain ⟨hi, hp, _⟩ := h
    exact ⟨fun _ => ⟨zs[i], List.getElem_mem _, hp⟩, fun _ => by omega⟩
  | none =>
    simp only
    rw [List.findIdx?_eq_none_iff] at h
    refine ⟨fun h0 => by omega, fun ⟨x, hx, hpx⟩ => ?_⟩
    rw [h x hx] at hpx; cases hpx

set_option maxHeartbeats 1000000 in
theorem containsFuncC_any {cs : List Cn} (g : Nat) (X : Array Value) (p : Cn → Bool) (w : World) (eg : ∀ args w, (callFunc g args).run Try.prog w = .ok (.enter g args) w)
    (hp : ∀ (A : Option Addr) (n cap : Nat) (ts : List Tm) (bd : Int) (W : World), n ≤ maxLen → Seg W 2 A n (encT ts) → Ext w W → (ts, bd) ∈ cs → Calls Try.prog g (#[.agg #[.slice A n cap, .int .i64 bd]] ++ X) W fun e w' => e = .returned (.bool (p (ts, bd))) ∧ Ext W w')
    (A : Option Addr) (n cap : Nat) (hn : n ≤ maxLen) (h : SegC w A n cs) :
    Calls Try.prog 91 #[.slice A n cap, .func (.func g) #[] X] w fun e w' => e = .returned (.bool (cs.any p)) ∧ Ext w w' := by
  have hi := indexFuncC_any g X p w eg hp A n cap hn h
  have hq := idxC_any p cs
  have HI := Lib.hid hi
  have HQ := Lib.hid hq
  clear hi hq hp h eg
  go_enter Try.func91, Try.ntmps91
  go_wp2_with fail
  refine HI.out.mono ?_
  rintro e w1 ⟨rfl, hE1⟩
  go_wp2
  go_ret
  refine ⟨ret_b ?_, hE1⟩
  have := HQ.out
  cases hz : cs.any p
  · rw [hz] at this
    exact decide_eq_false (fun h => by simpa using this.1 h)
  · rw [hz] at this
    exact decide_eq_true (this.2 rfl)

set_option maxHeartbeats 400000 in
theorem implAVc_any (A : Option Addr) (n cap : Nat) (ts : List Tm) (bd : Int) (w : World) (hn : n ≤ maxLen) (h : Seg w 2 A n (encT ts)) :
    Calls Try.prog 99 #[.agg #[.slice A n cap, .int .i64 bd]] w fun e w' => e = .returned (.bool (!cvB ts bd)) ∧ Ext w w' := by
  have HN := Lib.hid hn
  have HS := Lib.hid h
  clear hn h
  go_enter Try.func99, Try.ntmps99
  go_wp2_with fail
  refine (implCV_any A n cap ts bd _ HN.out (HS.out.alloc _)).mono ?_
  rintro e w1 ⟨rfl, hE1⟩
  go_wp2
  go_ret
  exact ⟨rfl, ((Ext.refl _).alloc _).trans hE1⟩

set_option maxHeartbeats 1000000 in
theorem implAV_any (A : Option Addr) (n cap : Nat) (cs : List Cn) (w : World) (hn : n ≤ maxLen) (h : SegC w A n cs) :
    Calls Try.prog 82 #[.slice A n cap] w fun e w' => e = .returned (.bool (cs.all cvC)) ∧ Ext w w' := by
  have HC := Lib.hid (containsFuncC_any 99 #[] (fun c => !cvC c) w (enters_of Try.func99 (by kernel_rfl) rfl) (fun A n cap ts bd W h1 h2 _ _ => implAVc_any A n cap ts bd W h1 h2) A n cap hn h)
  clear h
  go_enter Try.func82, Try.ntmps82
  go_wp2_with fail
  refine HC.out.mono ?_
  rintro e w1 ⟨rfl, hE1⟩
  generalize hq : (cs.any fun c => !cvC c) = q
  have HQ := Lib.hid hq
  clear hq
  go_wp2
  go_ret
  refine ⟨ret_b ?_, hE1⟩
  rw [← HQ.out, ← List.not_all_eq_any_not]
  simp

set_option maxHeartbeats 1000000 in
theorem implProbV_any (A : Option Addr) (n cap : Nat) (cs : List Cn) (w : World) (hn : n ≤ maxLen) (h : SegC w A n cs) :
    Calls Try.prog 46 #[.slice A n cap] w fun e w' => e = .returned (.bool (probB cs)) ∧ Ext w w' := by
  have HL := Lib.hid h.len
  have HC := Lib.hid (implAV_any A n cap cs w hn h)
  clear h
  by_cases h4 : n ≤ 400
  · have hb : decide ((n : Int) ≤ 400) = true := decide_eq_true (by omega)
    go_enter Try.func46, Try.ntmps46
    go_wp2_with fail
    refine HC.out.mono ?_
    rintro e w1 ⟨rfl, hE1⟩
    go_wp2
    go_ret
    exact ⟨ret_b (by unfold probB; rw [HL.out, decide_eq_true h4, Bool.true_and]), hE1⟩
  · have hb : decide ((n : Int) ≤ 400) = false := decide_eq_false (by omega)
    go_enter Try.func46, Try.ntmps46
    go_wp2
    go_ret
    exact ⟨ret_b (by unfold probB; rw [HL.out, decide_eq_false h4, Bool.false_and]), Ext.refl _⟩
end Go.Proofs.Ytihbgajlnbchlaa
