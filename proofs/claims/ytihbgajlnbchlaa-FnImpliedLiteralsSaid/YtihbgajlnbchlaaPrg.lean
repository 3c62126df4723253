/- Propagate, the program's and the reference's. -/
import Derived.Test.YtihbgajlnbchlaaProp
import Derived.Test.YtihbgajlnbchlaaApp
import Derived.Test.YtihbgajlnbchlaaSats
namespace Go.Proofs.Ytihbgajlnbchlaa
open Go.RowKit

def prB (cs : List Cn) (p : List Int) : Bool := probB cs && pvB p
def prT (cs : List Cn) (p : List Int) : List Int := if prB cs p = true then (propP cs 13 p).1 else []
def prK (cs : List Cn) (p : List Int) : Int := if prB cs p = true then (propP cs 13 p).2 else -1
theorem passP_len (cs : List Cn) : ∀ (p : List Int) (i : Int) (ch : Bool), (passP cs p i ch).1.length = p.length := by
  induction cs with
  | nil => intro p i ch; rfl
  | cons c cs ih =>
    intro p i ch
    rw [passP]; split
    · rfl
    · rw [ih, asgL_len]
theorem propP_len (cs : List Cn) : ∀ (f : Nat) (p : List Int), (propP cs f p).1.length = p.length := by
  intro f
  induction f with
  | zero => intro p; rfl
  | succ f ih =>
    intro p
    rw [propP]
    split
    · exact passP_len _ _ _ _
    · split
      · rw [ih, passP_len]
      · exact passP_len _ _ _ _
theorem prT_len (cs : List Cn) (p : List Int) : (prT cs p).length ≤ 1048576 := by
  unfold prT; split
  · rename_i h
    unfold prB at h; rw [Bool.and_eq_true] at h
    rw [propP_len, (pvB_at h.2).1]; omega
  · simp
def RetIIB (xs : List Int) (k : Int) (ok : Bool) (w : World) (e : Ending) (w' : World) : Prop :=
  ∃ A n cap, e = .returned (.tuple #[.slice A n cap, .int .i64 k, .bool ok]) ∧ xs.length = n ∧ Got w w' 1 A n (encI xs) ∧ Ext w w'

theorem Try.infoInPr : (Try.prog.info? 3).map (fun i => (i.zero, i.size, i.bytes)) = some (some (.int .i64 0), 1, 8) := by kernel_rfl
set_option maxRecDepth 100000 in
set_option maxHeartbeats 2000000 in
theorem specPr_any (A : Option Addr) (n cap : Nat) (cs : List Cn) (B : Option Addr) (m capb : Nat) (p : List Int) (w : World) (hn : n ≤ maxLen) (h : SegC w A n cs) (hm : m ≤ maxLen) (hb : Seg w 1 B m (encI p)) :
    Calls Try.prog 43 #[.slice A n cap, .slice B m capb] w fun e w' => RetIIB (prT cs p) (prK cs p) (prB cs p) w e w' := by
  obtain ⟨i0, hi, hz0, hz1, hz2⟩ := info_parts Try.infoInPr
  have HI := Lib.hid hi
  have HZ0 := Lib.hid hz0
  have HZ1 := Lib.hid hz1
  have HZ2 := Lib.hid hz2
  clear hi hz0 hz1 hz2
  have HL := Lib.hid hb.lenI
  have HS := Lib.hid h
  have HB := Lib.hid hb
  clear h hb
  by_cases hv : probB cs = true
  · have HV := Lib.hid hv
    by_cases hp : pvB p = true
    · have HP := Lib.hid hp
      have HO : Hid (prB cs p = true) := by unfold prB Hid; rw [hv, hp]; rfl
      obtain rfl : m = 12 := by rw [← HL.out]; exact (pvB_at hp).1
      clear hv hp
      go_enter Try.func43, Try.ntmps43
      go_wp2_with fail
      refine (calls_val (specProbV_any A n cap cs _ hn HS.out) (congrArg Value.bool HV.out)).mono ?_
      rintro e w1 ⟨rfl, hE1⟩
      go_wp2_with fail
      refine (calls_val (specPV_any B 12 capb p _ hm (HB.out.ext hE1)) (congrArg Value.bool HP.out)).mono ?_
      rintro e w2 ⟨rfl, hE2⟩
      have hE12 := Lib.hid (hE1.trans hE2)
      clear hE1 hE2
      have OE := own_empty w2 w2.heap.size 3 1 (Nat.le_refl _)
      go_wp2_with (first
        | (at_builtin
           refine wpList_append_seg _ rfl _ _ 26 rfl w2.heap.size 3 i0 _ 1 8 Try.underlying26 HI.out HZ0.out HZ1.out HZ2.out rfl (by omega) (.slice (some ⟨w2.heap.size, 0, none⟩) 0 0) 0 [] rfl OE B 12 capb (encI p) rfl ((HB.out.ext hE12.out).alloc _) (oneCI p) (by unfold maxLen; omega) (by omega) (by simp) ?_
           intro A3 k3 w3 hown3 hg3
           rw [List.nil_append] at hown3
           simp only [Nat.zero_add] at hown3 ⊢))
      have HG := own_parts hown3
      have hEg : Ext w2 w3 := ((Ext.refl w2).alloc _).grown hg3 (fun k hk => by simp [Value.ownBlock] at hk; omega)
      have HM : Hid (PM w3 w3 w2.heap.size w3.heap.size A3 p) := ⟨Kept.refl _ _ _, HG.1, HG.2.1, HG.2.2⟩
      have HE3 := Lib.hid (hE12.out.trans hEg)
      have hz2 := hEg.size
      have hz1 := hE12.out.size
      clear OE hown3 hg3 HG hEg
      go_wp2_with fail
      refine (l3Prop_any A n cap cs A3 k3 p w w3 w2.heap.size w3.heap.size hn HS.out (probB_all HV.out) HE3.out hz1 (Nat.le_refl _) HP.out HM.out).mono ?_
      rintro e w4 ⟨rfl, hM4⟩
      have HE4 := Lib.hid (HE3.out.fresh hM4.kept hz1)
      have HM4 := Lib.hid hM4
      have hz4 := hM4.kept.size
      clear hM4
      go_wp2
      refine bodyPost_ret (v := .tuple #[.slice A3 12 k3, .int .i64 (propP cs 13 p).2, .bool true]) (by simp [results, Try.results43, go_sem]) rfl ?_
      refine ⟨A3, 12, k3, by unfold prK; rw [if_pos HO.out, HO.out], by unfold prT; rw [if_pos HO.out, propP_len]; exact HL.out, ?_, HE4.out⟩
      unfold prT; rw [if_pos HO.out]
      exact ⟨HM4.out.seg, HM4.out.free, HM4.out.lies.wide hz1 hz4⟩
    · have hp' : pvB p = false := by simpa using hp
      have HP := Lib.hid hp'
      have HO : Hid (prB cs p = false) := by unfold prB Hid; rw [hp', Bool.and_false]
      clear hv hp hp'
      go_enter Try.func43, Try.ntmps43
      go_wp2_with fail
      refine (calls_val (specProbV_any A n cap cs _ hn HS.out) (congrArg Value.bool HV.out)).mono ?_
      rintro e w1 ⟨rfl, hE1⟩
      go_wp2_with fail
      refine (calls_val (specPV_any B m capb p _ hm (HB.out.ext hE1)) (congrArg Value.bool HP.out)).mono ?_
      rintro e w2 ⟨rfl, hE2⟩
      have HE := Lib.hid (hE1.trans hE2)
      clear hE1 hE2
      go_wp2
      refine bodyPost_ret (v := .tuple #[.slice (some ⟨w2.heap.size, 0, none⟩) 0 0, .int .i64 (-1), .bool false]) (by simp [results, Try.results43, go_sem]) rfl ?_
      exact ⟨_, 0, 0, by unfold prK; rw [if_neg (by rw [HO.out]; simp), HO.out], by unfold prT; rw [if_neg (by rw [HO.out]; simp)]; rfl, by unfold prT; rw [if_neg (by rw [HO.out]; simp)]; exact Got.nil' _ _ _ _, HE.out.alloc _⟩
  · have hf : probB cs = false := by simpa using hv
    have HV := Lib.hid hf
    have HO : Hid (prB cs p = false) := by unfold prB Hid; rw [hf]; rfl
    clear hv hf
    go_enter Try.func43, Try.ntmps43
    go_wp2_with fail
    refine (calls_val (specProbV_any A n cap cs _ hn HS.out) (congrArg Value.bool HV.out)).mono ?_
    rintro e w1 ⟨rfl, hE1⟩
    have HE := Lib.hid hE1
    clear hE1
    go_wp2
    refine bodyPost_ret (v := .tuple #[.slice (some ⟨w1.heap.size, 0, none⟩) 0 0, .int .i64 (-1), .bool false]) (by simp [results, Try.results43, go_sem]) rfl ?_
    exact ⟨_, 0, 0, by unfold prK; rw [if_neg (by rw [HO.out]; simp), HO.out], by unfold prT; rw [if_neg (by rw [HO.out]; simp)]; rfl, by unfold prT; rw [if_neg (by rw [HO.out]; simp)]; exact Got.nil' _ _ _ _, HE.out.alloc _⟩

set_option maxRecDepth 100000 in
set_option maxHeartbeats 2000000 in
theorem implPr_any (A : Option Addr) (n cap : Nat) (cs : List Cn) (B : Option Addr) (m capb : Nat) (p : List Int) (w : World) (hn : n ≤ maxLen) (h : SegC w A n cs) (hm : m ≤ maxLen) (hb : Seg w 1 B m (encI p)) :
    Calls Try.prog 42 #[.slice A n cap, .slice B m capb] w fun e w' => RetIIB (prT cs p) (prK cs p) (prB cs p) w e w' := by
  have HL := Lib.hid hb.lenI
  have HS := Lib.hid h
  have HB := Lib.hid hb
  clear h hb
  by_cases hv : probB cs = true
  · have HV := Lib.hid hv
    by_cases hp : pvB p = true
    · have HP := Lib.hid hp
      have HO : Hid (prB cs p = true) := by unfold prB Hid; rw [hv, hp]; rfl
      obtain rfl : m = 12 := by rw [← HL.out]; exact (pvB_at hp).1
      clear hv hp
      go_enter Try.func42, Try.ntmps42
      go_wp2_with fail
      refine (calls_val (implProbV_any A n cap cs _ hn HS.out) (congrArg Value.bool HV.out)).mono ?_
      rintro e w1 ⟨rfl, hE1⟩
      go_wp2_with fail
      refine (calls_val (implPV_any B 12 capb p _ hm (HB.out.ext hE1)) (congrArg Value.bool HP.out)).mono ?_
      rintro e w2 ⟨rfl, hE2⟩
      have hE12 := Lib.hid (hE1.trans hE2)
      clear hE1 hE2
      go_wp2_with fail
      refine (propagate_any A n cap cs B capb p _ hn (HS.out.ext hE12.out) (probB_all HV.out) HP.out (HB.out.ext hE12.out)).mono ?_
      rintro e w3 ⟨A3, k3, rfl, hG3, hE3⟩
      have HG := Lib.hid (hG3.from_ hE12.out)
      have HE := Lib.hid (hE12.out.trans hE3)
      clear hG3 hE3
      go_wp2
      refine bodyPost_ret (v := .tuple #[.slice A3 12 k3, .int .i64 (propP cs 13 p).2, .bool true]) (by simp [results, Try.results42, go_sem]) rfl ?_
      refine ⟨A3, 12, k3, by unfold prK; rw [if_pos HO.out, HO.out], by unfold prT; rw [if_pos HO.out, propP_len]; exact HL.out, ?_, HE.out⟩
      unfold prT; rw [if_pos HO.out]
      exact HG.out
    · have hp' : pvB p = false := by simpa using hp
      have HP := Lib.hid hp'
      have HO : Hid (prB cs p = false) := by unfold prB Hid; rw [hp', Bool.and_false]
      clear hv hp hp'
      go_enter Try.func42, Try.ntmps42
      go_wp2_with fail
      refine (calls_val (implProbV_any A n cap cs _ hn HS.out) (congrArg Value.bool HV.out)).mono ?_
      rintro e w1 ⟨rfl, hE1⟩
      go_wp2_with fail
      refine (calls_val (implPV_any B m capb p _ hm (HB.out.ext hE1)) (congrArg Value.bool HP.out)).mono ?_
      rintro e w2 ⟨rfl, hE2⟩
      have HE := Lib.hid (hE1.trans hE2)
      clear hE1 hE2
      go_wp2
      refine bodyPost_ret (v := .tuple #[.slice none 0 0, .int .i64 (-1), .bool false]) (by simp [results, Try.results42, go_sem]) rfl ?_
      exact ⟨_, 0, 0, by unfold prK; rw [if_neg (by rw [HO.out]; simp), HO.out], by unfold prT; rw [if_neg (by rw [HO.out]; simp)]; rfl, by unfold prT; rw [if_neg (by rw [HO.out]; simp)]; exact Got.nil' _ _ _ _, HE.out⟩
  · have hf : probB cs = false := by simpa using hv
    have HV := Lib.hid hf
    have HO : Hid (prB cs p = false) := by unfold prB Hid; rw [hf]; rfl
    clear hv hf
    go_enter Try.func42, Try.ntmps42
    go_wp2_with fail
    refine (calls_val (implProbV_any A n cap cs _ hn HS.out) (congrArg Value.bool HV.out)).mono ?_
    rintro e w1 ⟨rfl, hE1⟩
    have HE := Lib.hid hE1
    clear hE1
    go_wp2
    refine bodyPost_ret (v := .tuple #[.slice none 0 0, .int .i64 (-1), .bool false]) (by simp [results, Try.results42, go_sem]) rfl ?_
    exact ⟨_, 0, 0, by unfold prK; rw [if_neg (by rw [HO.out]; simp), HO.out], by unfold prT; rw [if_neg (by rw [HO.out]; simp)]; rfl, by unfold prT; rw [if_neg (by rw [HO.out]; simp)]; exact Got.nil' _ _ _ _, HE.out⟩
end Go.Proofs.Ytihbgajlnbchlaa
