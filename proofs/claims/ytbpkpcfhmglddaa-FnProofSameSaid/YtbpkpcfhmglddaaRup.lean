/- RupConstraint, the program's and the reference's. -/
import Derived.Test.YtbpkpcfhmglddaaProp
import Derived.Test.YtbpkpcfhmglddaaApp
import Derived.Test.YtbpkpcfhmglddaaPlN
import Derived.Test.YtbpkpcfhmglddaaMk
import Derived.Test.YtbpkpcfhmglddaaProbV
import Derived.Test.YtbpkpcfhmglddaaSats
import Derived.Test.YtbpkpcfhmglddaaClone
import Derived.Deep.RegionHeld3
namespace Go.Proofs.Ytbpkpcfhmglddaa
open Go.RowKit

def zero12 : List Int := List.replicate 12 0
def rupP (cs : List Cn) (ts : List Tm) (bd : Int) : Bool := decide (0 ≤ (propP (cs ++ [(negT ts, negD ts bd)]) 13 zero12).2)
def rupB (cs : List Cn) (ts : List Tm) (bd : Int) : Bool := probB cs && (cvB ts bd && rupP cs ts bd)
theorem zero12_pv : pvB zero12 = true := by decide
theorem all_neg {cs : List Cn} {ts : List Tm} {bd : Int} (h : cs.all cvC = true) (k : cvB ts bd = true) : (cs ++ [(negT ts, negD ts bd)]).all cvC = true := by
  rw [List.all_append, h]
  have := cvB_neg k
  simp [cvC, this]

theorem Try.infoCnR : (Try.prog.info? 25).map (fun i => (i.zero, i.size, i.bytes)) = some (some (.agg #[.slice none 0 0, .int .i64 0]), 2, 32) := by kernel_rfl
theorem oneCH : ∀ (hs : List Hd) (cs : List Cn), ∀ u ∈ encH hs cs, u.oneCell' = true
  | [], _, u, h => by simp [encH] at h
  | _ :: _, [], u, h => by simp [encH] at h
  | h :: hs, c :: cs, u, hu => by
    simp only [encH, List.mem_cons] at hu
    rcases hu with rfl | rfl | hu
    · rfl
    · rfl
    · exact oneCH hs cs u hu

theorem own_emptyAt (w : World) (base g : Nat) (e : TypeId) (sz : Nat) (hg : w.heap.size = g) (hb : base ≤ g) : (w.alloc (.cells #[] e)).ownsRow base e sz (.slice (some ⟨g, 0, none⟩) 0 0) 0 [] := by
  subst hg; exact own_empty w base e sz hb

theorem own_drew {w : World} {base : Nat} {e : TypeId} {sz : Nat} {v : Value} {n : Nat} {xs : List Value} (h : w.ownsRow base e sz v n xs) : w.drew.ownsRow base e sz v n xs := h
theorem blk_seg1 {w : World} {g : Nat} {t : TypeId} {a b : Value} (B : Blk w g t #[a, b]) : Seg w 2 (some ⟨g, 0, none⟩) 1 [a, b] :=
  ⟨rfl, fun _ => ⟨g, 0, rfl, fun j u hu => by
    rw [Nat.zero_add, B.cell]
    simpa using hu⟩⟩
theorem blk_grown {w w' : World} {g : Nat} {t : TypeId} {cs : Array Value} {row : Option Nat} (B : Blk w g t cs) (hg : w.grownBy w' row) (h : some g ≠ row) : Blk w' g t cs :=
  (hg.block g B.lt h).trans B
theorem oneC1 (A : Option Addr) (n c : Nat) (z : Int) : ∀ u ∈ [Value.slice A n c, Value.int .i64 z], u.oneCell' = true := by
  intro u hu; simp at hu; rcases hu with rfl | rfl <;> rfl
/-- one constraint more -/
theorem segC_snoc {w : World} {A A1 : Option Addr} {n n1 c1 : Nat} {hs : List Hd} {cs : List Cn} {ts : List Tm} {z : Int} (hl : hs.length = cs.length) (hS : Seg w 2 A n (encH hs cs ++ [.slice A1 n1 c1, .int .i64 z]))
    (hin : ∀ (i : Nat) (h : Hd) (c : Cn), hs[i]? = some h → cs[i]? = some c → h.2.1 ≤ maxLen ∧ Seg w 2 h.1 h.2.1 (encT c.1)) (hn : n1 ≤ maxLen) (h1 : Seg w 2 A1 n1 (encT ts)) : SegC w A n (cs ++ [(ts, z)]) := by
  refine ⟨hs ++ [(A1, n1, c1)], by simp [hl], ?_, fun i x c e1 e2 => ?_⟩
  · rw [encH_append hs cs _ _ hl]; exact hS
  · rcases Nat.lt_or_ge i hs.length with hlt | hge
    · rw [List.getElem?_append_left hlt] at e1
      rw [List.getElem?_append_left (by omega)] at e2
      exact hin i x c e1 e2
    · rw [List.getElem?_append_right hge] at e1
      rw [List.getElem?_append_right (by omega), ← hl] at e2
      rcases Nat.eq_zero_or_pos (i - hs.length) with h0 | h0
      · rw [h0] at e1 e2
        simp at e1 e2
        subst e1; subst e2
        exact ⟨hn, h1⟩
      · rw [List.getElem?_eq_none (by simp; omega)] at e1; cases e1

set_option maxRecDepth 100000 in
set_option maxHeartbeats 4000000 in
theorem l3Rup_any (A : Option Addr) (n cap : Nat) (cs : List Cn) (B : Option Addr) (m capb : Nat) (ts : List Tm) (bd : Int) (w : World) (hn : n ≤ 1048576) (h : SegC w A n cs) (hv : cs.all cvC = true)
    (hm : m ≤ maxLen) (hb : Seg w 2 B m (encT ts)) (hc : cvB ts bd = true) :
    Calls Try.prog 85 #[.slice A n cap, .agg #[.slice B m capb, .int .i64 bd]] w fun e w' => e = .returned (.bool (rupP cs ts bd)) ∧ Ext w w' := by
  have HV := Lib.hid hv
  have HC := Lib.hid hc
  obtain ⟨i0, hi, hz0, hz1, hz2⟩ := info_parts Try.infoCnR
  have HI := Lib.hid hi
  have HZ0 := Lib.hid hz0
  have HZ1 := Lib.hid hz1
  have HZ2 := Lib.hid hz2
  clear hi hz0 hz1 hz2
  obtain ⟨hs, hl, hS, hin⟩ := h
  have HIN := Lib.hid hin
  have HLh := Lib.hid hl
  have HS := Lib.hid hS
  have HB := Lib.hid hb
  clear hv hc hl hS hin hb
  go_enter Try.func85, Try.ntmps85
  go_wp2_with fail
  refine Calls.mono ((specNeg_any B m capb ts bd _ hm (HB.out.alloc _)).mono fun _ _ h => h.of_eq (ngT_of HC.out) (ngD_of HC.out) HC.out) ?_
  rintro e w1 ⟨A1, n1, c1, rfl, hl1, hG1, hE1⟩
  have HG1 := Lib.hid hG1
  have HL1 := Lib.hid hl1
  have HE1 := Lib.hid (((Ext.refl w).alloc _).trans hE1)
  clear hG1 hl1 hE1
  go_wp2_with fail
  generalize hz : negD ts bd = z
  have HZ := Lib.hid hz
  clear hz
  have KS : Hid (∀ w', Ext (w1.alloc (.cells #[.slice A1 n1 c1, .int .i64 z] 25)) w' → w'.cell? ⟨w1.heap.size, 0, none⟩ = some (.slice A1 n1 c1) ∧ w'.cell? ⟨w1.heap.size, 1, none⟩ = some (.int .i64 z)) := fun w' e => ⟨(Blk.of1 e).cell 0, (Blk.of1 e).cell 1⟩
  have e1 : Ext (w1.alloc (.cells #[.slice A1 n1 c1, .int .i64 z] 25)) (w1.alloc (.cells #[.slice A1 n1 c1, .int .i64 z] 25)).drew := (Ext.refl _).drew
  have SA : Hid (∀ W, Ext (w1.alloc (.cells #[.slice A1 n1 c1, .int .i64 z] 25)) W → Seg W 2 A n (encH hs cs)) := fun W e => HS.out.ext ((HE1.out.alloc _).trans e)
  go_region_held3 (fun w' => w'.cell? ⟨w1.heap.size, 0, none⟩ = some (.slice A1 n1 c1) ∧ w'.cell? ⟨w1.heap.size, 1, none⟩ = some (.int .i64 z))
    ((refine KS.out _ ?_; first | exact ((((Ext.refl _).alloc _).alloc _).drew) | exact (((Ext.refl _).alloc _).drew) | exact e1 | exact e1.alloc _ | exact (e1.alloc _).alloc _ | exact E6 | exact E5.alloc _ | exact E5))
    ((first
      | (refine step_append_seg _ (by rfl) (.tmp 13) (.tmp 14) 55 (by rfl) (w1.heap.size + 1) 25 i0 _ 2 32 Try.underlying55 HI.out HZ0.out HZ1.out HZ2.out (by rfl) (by omega) (.slice (some ⟨w1.heap.size + 1, 0, none⟩) 0 0) 0 [] (by rfl) (own_emptyAt _ _ _ _ _ (by simp) (by omega)) A n cap (encH hs cs) (by rfl) (SA.out _ (e1.alloc _)) (oneCH hs cs) (by unfold maxLen; omega) (by omega) (by simp) ?_
         intro A5 k5 w5 hown5 hg5
         rw [Nat.zero_add, List.nil_append] at hown5
         have E5 := own_ext (e1.alloc _) (own_emptyAt _ (w1.heap.size + 1) (w1.heap.size + 1) 25 2 (by simp) (by omega)) (by simp) hg5
         have B5 := fun o => Blk.new w5 25 o
         have hz5 := E5.size)
      | (refine step_append_seg _ (by rfl) (.tmp 13) (.tmp 14) 55 (by rfl) (w1.heap.size + 1) 25 i0 _ 2 32 Try.underlying55 HI.out HZ0.out HZ1.out HZ2.out (by rfl) (by omega) (.slice (some ⟨w1.heap.size + 1, 0, none⟩) 0 0) 0 [] (by rfl) (own_drew ((own_emptyAt _ _ _ _ _ (by simp) (by omega)).alloc _)) A n cap (encH hs cs) (by rfl) (SA.out _ ((((Ext.refl _).alloc _).alloc _).drew)) (oneCH hs cs) (by unfold maxLen; omega) (by omega) (by first | (simp; done) | (simp; omega)) ?_
         intro A5 k5 w5 hown5 hg5
         rw [Nat.zero_add, List.nil_append] at hown5
         have E5 := own_ext ((((Ext.refl _).alloc _).alloc _).drew) (own_drew ((own_emptyAt _ (w1.heap.size + 1) (w1.heap.size + 1) 25 2 (by simp) (by omega)).alloc _)) (by simp) hg5
         have B5 := blk_grown ((Blk.new _ _ _).drew) hg5 (by simp [Value.ownBlock])
         have hz5 := E5.size)
      | (refine step_append_seg _ (by rfl) (.tmp 13) (.tmp 14) 55 (by rfl) (w1.heap.size + 1) 25 i0 _ 2 32 Try.underlying55 HI.out HZ0.out HZ1.out HZ2.out (by rfl) (by omega) (.slice (some ⟨w1.heap.size + 1, 0, none⟩) 0 0) 0 [] (by rfl) ((own_emptyAt _ _ _ _ _ (by simp) (by omega)).alloc _) A n cap (encH hs cs) (by rfl) (SA.out _ ((e1.alloc _).alloc _)) (oneCH hs cs) (by unfold maxLen; omega) (by omega) (by first | (simp; done) | (simp; omega)) ?_
         intro A5 k5 w5 hown5 hg5
         rw [Nat.zero_add, List.nil_append] at hown5
         have E5 := own_ext ((e1.alloc _).alloc _) ((own_emptyAt _ (w1.heap.size + 1) (w1.heap.size + 1) 25 2 (by simp) (by omega)).alloc _) (by simp) hg5
         have B5 := blk_grown (Blk.new _ _ _) hg5 (by simp [Value.ownBlock])
         have hz5 := E5.size)
      | (refine step_append_seg _ (by rfl) (.tmp 13) (.tmp 14) 55 (by rfl) (w1.heap.size + 1) 25 i0 _ 2 32 Try.underlying55 HI.out HZ0.out HZ1.out HZ2.out (by rfl) (by omega) (.slice (some ⟨w1.heap.size + 1 + 1, 0, none⟩) 0 0) 0 [] (by rfl) (own_drew (own_emptyAt _ _ _ _ _ (by simp) (by omega))) A n cap (encH hs cs) (by rfl) (SA.out _ ((((Ext.refl _).alloc _).alloc _).drew)) (oneCH hs cs) (by unfold maxLen; omega) (by omega) (by first | (simp; done) | (simp; omega)) ?_
         intro A5 k5 w5 hown5 hg5
         rw [Nat.zero_add, List.nil_append] at hown5
         have E5 := own_ext ((((Ext.refl _).alloc _).alloc _).drew) (own_drew (own_emptyAt _ (w1.heap.size + 1) (w1.heap.size + 1 + 1) 25 2 (by simp) (by omega))) (by simp) hg5
         have B5 := blk_grown (((Blk.new _ _ _).alloc _).drew) hg5 (by simp [Value.ownBlock])
         have hz5 := E5.size)
      | (refine step_append_seg _ (by rfl) (.tmp 13) (.tmp 14) 55 (by rfl) (w1.heap.size + 1) 25 i0 _ 2 32 Try.underlying55 HI.out HZ0.out HZ1.out HZ2.out (by rfl) (by omega) (.slice (some ⟨w1.heap.size + 1 + 1, 0, none⟩) 0 0) 0 [] (by rfl) (own_emptyAt _ _ _ _ _ (by simp) (by omega)) A n cap (encH hs cs) (by rfl) (SA.out _ ((e1.alloc _).alloc _)) (oneCH hs cs) (by unfold maxLen; omega) (by omega) (by first | (simp; done) | (simp; omega)) ?_
         intro A5 k5 w5 hown5 hg5
         rw [Nat.zero_add, List.nil_append] at hown5
         have E5 := own_ext ((e1.alloc _).alloc _) (own_emptyAt _ (w1.heap.size + 1) (w1.heap.size + 1 + 1) 25 2 (by simp) (by omega)) (by simp) hg5
         have B5 := blk_grown ((Blk.new _ _ _).alloc _) hg5 (by simp [Value.ownBlock])
         have hz5 := E5.size)
      | (refine step_append_seg _ (by rfl) (.tmp 15) (.tmp 17) 55 (by rfl) (w1.heap.size + 1) 25 i0 _ 2 32 Try.underlying55 HI.out HZ0.out HZ1.out HZ2.out (by rfl) (by omega) (.slice A5 n k5) n (encH hs cs) (by first | rfl | exact congrArg (fun x => Value.slice A5 x k5) (Nat.zero_add n)) (hown5.alloc _) (some ⟨w5.heap.size, 0, none⟩) 1 1 [.slice A1 n1 c1, .int .i64 z] (by rfl) (blk_seg1 (Blk.new _ _ _)) (oneC1 _ _ _ _) (by unfold maxLen; omega) (by omega) (by rw [World.size_alloc] at hz5 ⊢; omega) ?_
         intro A6 k6 w6 hown6 hg6
         have E6 := own_ext (E5.alloc _) (hown5.alloc _) (by simp) hg6)
      | (refine step_append_seg _ (by rfl) (.tmp 15) (.tmp 17) 55 (by rfl) (w1.heap.size + 1) 25 i0 _ 2 32 Try.underlying55 HI.out HZ0.out HZ1.out HZ2.out (by rfl) (by omega) (.slice A5 n k5) n (encH hs cs) (by first | rfl | exact congrArg (fun x => Value.slice A5 x k5) (Nat.zero_add n)) hown5 _ 1 1 [.slice A1 n1 c1, .int .i64 z] (by rfl) (blk_seg1 (by simpa using B5)) (oneC1 _ _ _ _) (by unfold maxLen; omega) (by omega) (by rw [World.size_alloc] at hz5; omega) ?_
         intro A6 k6 w6 hown6 hg6
         have E6 := own_ext E5 hown5 (by simp) hg6)))
  all_goals
    have EW := Lib.hid (HE1.out.trans (((Ext.refl w1).alloc _).trans E6))
    have EV1 := ((Ext.refl w1).alloc (.cells #[.slice A1 n1 c1, .int .i64 z] 25)).trans E6
    have hn1 : n1 ≤ maxLen := by have := cvB_len HC.out; have := HL1.out; rw [negT_len] at this; unfold maxLen; omega
    have HSC := Lib.hid (segC_snoc HLh.out (own_parts hown6).1 (fun i h c e1 e2 => ⟨(HIN.out i h c e1 e2).1, (HIN.out i h c e1 e2).2.ext EW.out⟩) hn1 (HG1.out.seg.ext EV1))
    have HALL := Lib.hid (all_neg HV.out HC.out)
    rw [Hid, HZ.out] at HALL
    have HALL := Lib.hid HALL
    have hmk := Try.mkI12 w6
    have HPM : Hid (PM (w6.alloc (.cells #[.int .i64 0, .int .i64 0, .int .i64 0, .int .i64 0, .int .i64 0, .int .i64 0, .int .i64 0, .int .i64 0, .int .i64 0, .int .i64 0, .int .i64 0, .int .i64 0] 3)) (w6.alloc (.cells #[.int .i64 0, .int .i64 0, .int .i64 0, .int .i64 0, .int .i64 0, .int .i64 0, .int .i64 0, .int .i64 0, .int .i64 0, .int .i64 0, .int .i64 0, .int .i64 0] 3)) w6.heap.size (w6.heap.size + 1) (some ⟨w6.heap.size, 0, none⟩) zero12) := by
      have G := (Blk.new w6 3 #[.int .i64 0, .int .i64 0, .int .i64 0, .int .i64 0, .int .i64 0, .int .i64 0, .int .i64 0, .int .i64 0, .int .i64 0, .int .i64 0, .int .i64 0, .int .i64 0]).got (w := w6) (sz := 1) (n := 12) rfl (Nat.le_refl _)
      exact ⟨Kept.refl _ _ _, G.seg, G.free, fun _ ad e => by injection e with e; subst e; exact ⟨Nat.le_refl _, by simp⟩⟩
    have hn9 : n + 1 ≤ maxLen := by unfold maxLen; omega
    have HR : Hid (decide (0 ≤ (propP (cs ++ [(negT ts, z)]) 13 zero12).2) = rupP cs ts bd) := by unfold rupP Hid; rw [HZ.out]
    clear hown6 hg6 E6 EV1 hown5 hg5 E5 hz5
    try clear B5
    try clear e1
    try clear hHeld
    go_wp2_with fail
    refine (l3Prop_any A6 (n + 1) k6 (cs ++ [(negT ts, z)]) (some ⟨w6.heap.size, 0, none⟩) 12 zero12 w6 _ w6.heap.size (w6.heap.size + 1) hn9 HSC.out HALL.out ((Ext.refl _).alloc _) (Nat.le_refl _) (by simp) zero12_pv HPM.out).mono ?_
    rintro e w7 ⟨rfl, hP7⟩
    have HE7 := Lib.hid (EW.out.trans (((Ext.refl w6).alloc _).fresh hP7.kept (by simp)))
    clear hP7 hmk
    go_wp2
    go_ret
    exact ⟨ret_b HR.out, HE7.out⟩
/-- headers in a row of the call's own -/
def RetOwn (xs : List Value) (w : World) (e : Ending) (w' : World) : Prop :=
  ∃ A n cap, e = .returned (.slice A n cap) ∧ w'.ownsRow w.heap.size 25 2 (.slice A n cap) n xs ∧ Ext w w'

theorem kept_own {w w' : World} {row : Option Nat} {lo hi : Nat} (hg : w.grownBy w' row) (h : ∀ k, row = some k → lo ≤ k ∧ k < hi) : Kept lo hi w w' :=
  ⟨hg.os, hg.tape, hg.output, hg.size, fun i hi' ho => hg.block i hi' (fun e => by have := h i e.symm; omega)⟩
theorem blk_seg12 {w : World} {g : Nat} {t : TypeId} (B : Blk w g t #[.int .i64 0, .int .i64 0, .int .i64 0, .int .i64 0, .int .i64 0, .int .i64 0, .int .i64 0, .int .i64 0, .int .i64 0, .int .i64 0, .int .i64 0, .int .i64 0]) : Seg w 1 (some ⟨g, 0, none⟩) 12 (encI zero12) :=
  ⟨rfl, fun _ => ⟨g, 0, rfl, fun j u hu => by
    rw [Nat.zero_add, B.cell]
    have e : encI zero12 = [.int .i64 0, .int .i64 0, .int .i64 0, .int .i64 0, .int .i64 0, .int .i64 0, .int .i64 0, .int .i64 0, .int .i64 0, .int .i64 0, .int .i64 0, .int .i64 0] := rfl
    rw [e] at hu
    simpa using hu⟩⟩


theorem rupB_yes {cs : List Cn} {ts : List Tm} {bd : Int} (h : probB cs = true) (k : cvB ts bd = true) : rupB cs ts bd = rupP cs ts bd := by
  unfold rupB; rw [h, k]; rfl


end Go.Proofs.Ytbpkpcfhmglddaa
