/- RupConstraint, the program's and the reference's. -/
import Derived.Test.YtihbgajlnbchlaaProp
import Derived.Test.YtihbgajlnbchlaaApp
import Derived.Test.YtihbgajlnbchlaaPlN
import Derived.Test.YtihbgajlnbchlaaMk
import Derived.Test.YtihbgajlnbchlaaProbV
import Derived.Test.YtihbgajlnbchlaaSats
import Derived.Test.YtihbgajlnbchlaaClone
import Derived.Deep.RegionHeld3
namespace Go.Proofs.Ytihbgajlnbchlaa
open Go.RowKit

def zero12 : List Int := List.replicate 12 0
def rupP (cs : List Cn) (ts : List Tm) (bd : Int) : Bool := decide (0 ≤ (propP (cs ++ [(negT ts, negD ts bd)]) 13 zero12).2)
def rupB (cs : List Cn) (ts : List Tm) (bd : Int) : Bool := probB cs && (cvB ts bd && rupP cs ts bd)
theorem zero12_pv : pvB zero12 = true := by decide
theorem all_neg {cs : List Cn} {ts : List Tm} {bd : Int} (h : cs.all cvC = true) (k : cvB ts bd = true) : (cs ++ [(negT ts, negD ts bd)]).all cvC = true := by
  rw [List.all_append, h]
  have := cvB_neg k
  simp [cvC, this]

theorem Try.infoCnR : (Try.prog.info? 25).map (fun i => (i.zero, i.size, i.bytes)) = some (some (.agg #[.slice none 0 0, .int .i64 0]), 2, 32) := by kernel_rfl
theorem oneCH : ∀ (hs : List Hd) (cs : List Cn), ∀ u ∈ encH hs cs, u.oneCell' = true
  | [], _, u, h => by simp [encH] at h
  | _ :: _, [], u, h => by simp [encH] at h
  | h :: hs, c :: cs, u, hu => by
    simp only [encH, List.mem_cons] at hu
    rcases hu with rfl | rfl | hu
    · rfl
    · rfl
    · exact oneCH hs cs u hu

theorem own_emptyAt (w : World) (base g : Nat) (e : TypeId) (sz : Nat) (hg : w.heap.size = g) (hb : base ≤ g) : (w.alloc (.cells #[] e)).ownsRow base e sz (.slice (some ⟨g, 0, none⟩) 0 0) 0 [] := by
  subst hg; exact own_empty w base e sz hb

theorem own_drew {w : World} {base : Nat} {e : TypeId} {sz : Nat} {v : Value} {n : Nat} {xs : List Value} (h : w.ownsRow base e sz v n xs) : w.drew.ownsRow base e sz v n xs := h
theorem blk_seg1 {w : World} {g : Nat} {t : TypeId} {a b : Value} (B : Blk w g t #[a, b]) : Seg w 2 (some ⟨g, 0, none⟩) 1 [a, b] :=
  ⟨rfl, fun _ => ⟨g, 0, rfl, fun j u hu => by
    rw [Nat.zero_add, B.cell]
    simpa using hu⟩⟩
theorem blk_grown {w w' : World} {g : Nat} {t : TypeId} {cs : Array Value} {row : Option Nat} (B : Blk w g t cs) (hg : w.grownBy w' row) (h : some g ≠ row) : Blk w' g t cs :=
  (hg.block g B.lt h).trans B
theorem oneC1 (A : Option Addr) (n c : Nat) (z : Int) : ∀ u ∈ [Value.slice A n c, Value.int .i64 z], u.oneCell' = true := by
  intro u hu; simp at hu; rcases hu with rfl | rfl <;> rfl
/-- one constraint more -/
theorem segC_snoc {w : World} {A A1 : Option Addr} {n n1 c1 : Nat} {hs : List Hd} {cs : List Cn} {ts : List Tm} {z : Int} (hl : hs.length = cs.length) (hS : Seg w 2 A n (encH hs cs ++ [.slice A1 n1 c1, .int .i64 z]))
    (hin : ∀ (i : Nat) (h : Hd) (c : Cn), hs[i]? = some h → cs[i]? = some c → h.2.1 ≤ maxLen ∧ Seg w 2 h.1 h.2.1 (encT c.1)) (hn : n1 ≤ maxLen) (h1 : Seg w 2 A1 n1 (encT ts)) : SegC w A n (cs ++ [(ts, z)]) := by
  refine ⟨hs ++ [(A1, n1, c1)], by simp [hl], ?_, fun i x c e1 e2 => ?_⟩
  · rw [encH_append hs cs _ _ hl]; exact hS
  · rcases Nat.lt_or_ge i hs.length with hlt | hge
    · rw [List.getElem?_append_left hlt] at e1
      rw [List.getElem?_append_left (by omega)] at e2
      exact hin i x c e1 e2
    · rw [List.getElem?_append_right hge] at e1
      rw [List.getElem?_append_right (by omega), ← hl] at e2
      rcases Nat.eq_zero_or_pos (i - hs.length) with h0 | h0
      · rw [h0] at e1 e2
        simp at e1 e2
        subst e1; subst e2
        exact ⟨hn, h1⟩
      · rw [List.getElem?_eq_none (by simp; omega)] at e1; cases e1

set_option maxRecDepth 100000 in
set_option maxHeartbeats 4000000 in
theorem l3Rup_any (A : Option Addr) (n cap : Nat) (cs : List Cn) (B : Option Addr) (m capb : Nat) (ts : List Tm) (bd : Int) (w : World) (hn : n ≤ 1048576) (h : SegC w A n cs) (hv : cs.all cvC = true)
    (hm : m ≤ maxLen) (hb : Seg w 2 B m (encT ts)) (hc : cvB ts bd = true) :
    Calls Try.prog 86 #[.slice A n cap, .agg #[.slice B m capb, .int .i64 bd]] w fun e w' => e = .returned (.bool (rupP cs ts bd)) ∧ Ext w w' := by
  have HV := Lib.hid hv
  have HC := Lib.hid hc
  obtain ⟨i0, hi, hz0, hz1, hz2⟩ := info_parts Try.infoCnR
  have HI := Lib.hid hi
  have HZ0 := Lib.hid hz0
  have HZ1 := Lib.hid hz1
  have HZ2 := Lib.hid hz2
  clear hi hz0 hz1 hz2
  obtain ⟨hs, hl, hS, hin⟩ := h
  have HIN := Lib.hid hin
  have HLh := Lib.hid hl
  have HS := Lib.hid hS
  have HB := Lib.hid hb
  clear hv hc hl hS hin hb
  go_enter Try.func86, Try.ntmps86
  go_wp2_with fail
  refine Calls.mono ((specNeg_any B m capb ts bd _ hm (HB.out.alloc _)).mono fun _ _ h => h.of_eq (ngT_of HC.out) (ngD_of HC.out) HC.out) ?_
  rintro e w1 ⟨A1, n1, c1, rfl, hl1, hG1, hE1⟩
  have HG1 := Lib.hid hG1
  have HL1 := Lib.hid hl1
  have HE1 := Lib.hid (((Ext.refl w).alloc _).trans hE1)
  clear hG1 hl1 hE1
  go_wp2_with fail
  generalize hz : negD ts bd = z
  have HZ := Lib.hid hz
  clear hz
  have KS : Hid (∀ w', Ext (w1.alloc (.cells #[.slice A1 n1 c1, .int .i64 z] 25)) w' → w'.cell? ⟨w1.heap.size, 0, none⟩ = some (.slice A1 n1 c1) ∧ w'.cell? ⟨w1.heap.size, 1, none⟩ = some (.int .i64 z)) := fun w' e => ⟨(Blk.of1 e).cell 0, (Blk.of1 e).cell 1⟩
  have e1 : Ext (w1.alloc (.cells #[.slice A1 n1 c1, .int .i64 z] 25)) (w1.alloc (.cells #[.slice A1 n1 c1, .int .i64 z] 25)).drew := (Ext.refl _).drew
  have SA : Hid (∀ W, Ext (w1.alloc (.cells #[.slice A1 n1 c1, .int .i64 z] 25)) W → Seg W 2 A n (encH hs cs)) := fun W e => HS.out.ext ((HE1.out.alloc _).trans e)
  go_region_held3 (fun w' => w'.cell? ⟨w1.heap.size, 0, none⟩ = some (.slice A1 n1 c1) ∧ w'.cell? ⟨w1.heap.size, 1, none⟩ = some (.int .i64 z))
    ((refine KS.out _ ?_; first | exact ((((Ext.refl _).alloc _).alloc _).drew) | exact (((Ext.refl _).alloc _).drew) | exact e1 | exact e1.alloc _ | exact (e1.alloc _).alloc _ | exact E6 | exact E5.alloc _ | exact E5))
    ((first
      | (refine step_append_seg _ (by rfl) (.tmp 13) (.tmp 14) 42 (by rfl) (w1.heap.size + 1) 25 i0 _ 2 32 Try.underlying42 HI.out HZ0.out HZ1.out HZ2.out (by rfl) (by omega) (.slice (some ⟨w1.heap.size + 1, 0, none⟩) 0 0) 0 [] (by rfl) (own_emptyAt _ _ _ _ _ (by simp) (by omega)) A n cap (encH hs cs) (by rfl) (SA.out _ (e1.alloc _)) (oneCH hs cs) (by unfold maxLen; omega) (by omega) (by simp) ?_
         intro A5 k5 w5 hown5 hg5
         rw [Nat.zero_add, List.nil_append] at hown5
         have E5 := own_ext (e1.alloc _) (own_emptyAt _ (w1.heap.size + 1) (w1.heap.size + 1) 25 2 (by simp) (by omega)) (by simp) hg5
         have B5 := fun o => Blk.new w5 25 o
         have hz5 := E5.size)
      | (refine step_append_seg _ (by rfl) (.tmp 13) (.tmp 14) 42 (by rfl) (w1.heap.size + 1) 25 i0 _ 2 32 Try.underlying42 HI.out HZ0.out HZ1.out HZ2.out (by rfl) (by omega) (.slice (some ⟨w1.heap.size + 1, 0, none⟩) 0 0) 0 [] (by rfl) (own_drew ((own_emptyAt _ _ _ _ _ (by simp) (by omega)).alloc _)) A n cap (encH hs cs) (by rfl) (SA.out _ ((((Ext.refl _).alloc _).alloc _).drew)) (oneCH hs cs) (by unfold maxLen; omega) (by omega) (by first | (simp; done) | (simp; omega)) ?_
         intro A5 k5 w5 hown5 hg5
         rw [Nat.zero_add, List.nil_append] at hown5
         have E5 := own_ext ((((Ext.refl _).alloc _).alloc _).drew) (own_drew ((own_emptyAt _ (w1.heap.size + 1) (w1.heap.size + 1) 25 2 (by simp) (by omega)).alloc _)) (by simp) hg5
         have B5 := blk_grown ((Blk.new _ _ _).drew) hg5 (by simp [Value.ownBlock])
         have hz5 := E5.size)
      | (refine step_append_seg _ (by rfl) (.tmp 13) (.tmp 14) 42 (by rfl) (w1.heap.size + 1) 25 i0 _ 2 32 Try.underlying42 HI.out HZ0.out HZ1.out HZ2.out (by rfl) (by omega) (.slice (some ⟨w1.heap.size + 1, 0, none⟩) 0 0) 0 [] (by rfl) ((own_emptyAt _ _ _ _ _ (by simp) (by omega)).alloc _) A n cap (encH hs cs) (by rfl) (SA.out _ ((e1.alloc _).alloc _)) (oneCH hs cs) (by unfold maxLen; omega) (by omega) (by first | (simp; done) | (simp; omega)) ?_
         intro A5 k5 w5 hown5 hg5
         rw [Nat.zero_add, List.nil_append] at hown5
         have E5 := own_ext ((e1.alloc _).alloc _) ((own_emptyAt _ (w1.heap.size + 1) (w1.heap.size + 1) 25 2 (by simp) (by omega)).alloc _) (by simp) hg5
         have B5 := blk_grown (Blk.new _ _ _) hg5 (by simp [Value.ownBlock])
         have hz5 := E5.size)
      | (refine step_append_seg _ (by rfl) (.tmp 13) (.tmp 14) 42 (by rfl) (w1.heap.size + 1) 25 i0 _ 2 32 Try.underlying42 HI.out HZ0.out HZ1.out HZ2.out (by rfl) (by omega) (.slice (some ⟨w1.heap.size + 1 + 1, 0, none⟩) 0 0) 0 [] (by rfl) (own_drew (own_emptyAt _ _ _ _ _ (by simp) (by omega))) A n cap (encH hs cs) (by rfl) (SA.out _ ((((Ext.refl _).alloc _).alloc _).drew)) (oneCH hs cs) (by unfold maxLen; omega) (by omega) (by first | (simp; done) | (simp; omega)) ?_
         intro A5 k5 w5 hown5 hg5
         rw [Nat.zero_add, List.nil_append] at hown5
         have E5 := own_ext ((((Ext.refl _).alloc _).alloc _).drew) (own_drew (own_emptyAt _ (w1.heap.size + 1) (w1.heap.size + 1 + 1) 25 2 (by simp) (by omega))) (by simp) hg5
         have B5 := blk_grown (((Blk.new _ _ _).alloc _).drew) hg5 (by simp [Value.ownBlock])
         have hz5 := E5.size)
      | (refine step_append_seg _ (by rfl) (.tmp 13) (.tmp 14) 42 (by rfl) (w1.heap.size + 1) 25 i0 _ 2 32 Try.underlying42 HI.out HZ0.out HZ1.out HZ2.out (by rfl) (by omega) (.slice (some ⟨w1.heap.size + 1 + 1, 0, none⟩) 0 0) 0 [] (by rfl) (own_emptyAt _ _ _ _ _ (by simp) (by omega)) A n cap (encH hs cs) (by rfl) (SA.out _ ((e1.alloc _).alloc _)) (oneCH hs cs) (by unfold maxLen; omega) (by omega) (by first | (simp; done) | (simp; omega)) ?_
         intro A5 k5 w5 hown5 hg5
         rw [Nat.zero_add, List.nil_append] at hown5
         have E5 := own_ext ((e1.alloc _).alloc _) (own_emptyAt _ (w1.heap.size + 1) (w1.heap.size + 1 + 1) 25 2 (by simp) (by omega)) (by simp) hg5
         have B5 := blk_grown ((Blk.new _ _ _).alloc _) hg5 (by simp [Value.ownBlock])
         have hz5 := E5.size)
      | (refine step_append_seg _ (by rfl) (.tmp 15) (.tmp 17) 42 (by rfl) (w1.heap.size + 1) 25 i0 _ 2 32 Try.underlying42 HI.out HZ0.out HZ1.out HZ2.out (by rfl) (by omega) (.slice A5 n k5) n (encH hs cs) (by first | rfl | exact congrArg (fun x => Value.slice A5 x k5) (Nat.zero_add n)) (hown5.alloc _) (some ⟨w5.heap.size, 0, none⟩) 1 1 [.slice A1 n1 c1, .int .i64 z] (by rfl) (blk_seg1 (Blk.new _ _ _)) (oneC1 _ _ _ _) (by unfold maxLen; omega) (by omega) (by rw [World.size_alloc] at hz5 ⊢; omega) ?_
         intro A6 k6 w6 hown6 hg6
         have E6 := own_ext (E5.alloc _) (hown5.alloc _) (by simp) hg6)
      | (refine step_append_seg _ (by rfl) (.tmp 15) (.tmp 17) 42 (by rfl) (w1.heap.size + 1) 25 i0 _ 2 32 Try.underlying42 HI.out HZ0.out HZ1.out HZ2.out (by rfl) (by omega) (.slice A5 n k5) n (encH hs cs) (by first | rfl | exact congrArg (fun x => Value.slice A5 x k5) (Nat.zero_add n)) hown5 _ 1 1 [.slice A1 n1 c1, .int .i64 z] (by rfl) (blk_seg1 (by simpa using B5)) (oneC1 _ _ _ _) (by unfold maxLen; omega) (by omega) (by rw [World.size_alloc] at hz5; omega) ?_
         intro A6 k6 w6 hown6 hg6
         have E6 := own_ext E5 hown5 (by simp) hg6)))
  all_goals
    have EW := Lib.hid (HE1.out.trans (((Ext.refl w1).alloc _).trans E6))
    have EV1 := ((Ext.refl w1).alloc (.cells #[.slice A1 n1 c1, .int .i64 z] 25)).trans E6
    have hn1 : n1 ≤ maxLen := by have := cvB_len HC.out; have := HL1.out; rw [negT_len] at this; unfold maxLen; omega
    have HSC := Lib.hid (segC_snoc HLh.out (own_parts hown6).1 (fun i h c e1 e2 => ⟨(HIN.out i h c e1 e2).1, (HIN.out i h c e1 e2).2.ext EW.out⟩) hn1 (HG1.out.seg.ext EV1))
    have HALL := Lib.hid (all_neg HV.out HC.out)
    rw [Hid, HZ.out] at HALL
    have HALL := Lib.hid HALL
    have hmk := Try.mkI12 w6
    have HPM : Hid (PM (w6.alloc (.cells #[.int .i64 0, .int .i64 0, .int .i64 0, .int .i64 0, .int .i64 0, .int .i64 0, .int .i64 0, .int .i64 0, .int .i64 0, .int .i64 0, .int .i64 0, .int .i64 0] 3)) (w6.alloc (.cells #[.int .i64 0, .int .i64 0, .int .i64 0, .int .i64 0, .int .i64 0, .int .i64 0, .int .i64 0, .int .i64 0, .int .i64 0, .int .i64 0, .int .i64 0, .int .i64 0] 3)) w6.heap.size (w6.heap.size + 1) (some ⟨w6.heap.size, 0, none⟩) zero12) := by
      have G := (Blk.new w6 3 #[.int .i64 0, .int .i64 0, .int .i64 0, .int .i64 0, .int .i64 0, .int .i64 0, .int .i64 0, .int .i64 0, .int .i64 0, .int .i64 0, .int .i64 0, .int .i64 0]).got (w := w6) (sz := 1) (n := 12) rfl (Nat.le_refl _)
      exact ⟨Kept.refl _ _ _, G.seg, G.free, fun _ ad e => by injection e with e; subst e; exact ⟨Nat.le_refl _, by simp⟩⟩
    have hn9 : n + 1 ≤ maxLen := by unfold maxLen; omega
    have HR : Hid (decide (0 ≤ (propP (cs ++ [(negT ts, z)]) 13 zero12).2) = rupP cs ts bd) := by unfold rupP Hid; rw [HZ.out]
    clear hown6 hg6 E6 EV1 hown5 hg5 E5 hz5
    try clear B5
    try clear e1
    try clear hHeld
    go_wp2_with fail
    refine (l3Prop_any A6 (n + 1) k6 (cs ++ [(negT ts, z)]) (some ⟨w6.heap.size, 0, none⟩) 12 zero12 w6 _ w6.heap.size (w6.heap.size + 1) hn9 HSC.out HALL.out ((Ext.refl _).alloc _) (Nat.le_refl _) (by simp) zero12_pv HPM.out).mono ?_
    rintro e w7 ⟨rfl, hP7⟩
    have HE7 := Lib.hid (EW.out.trans (((Ext.refl w6).alloc _).fresh hP7.kept (by simp)))
    clear hP7 hmk
    go_wp2
    go_ret
    exact ⟨ret_b HR.out, HE7.out⟩
/-- headers in a row of the call's own -/
def RetOwn (xs : List Value) (w : World) (e : Ending) (w' : World) : Prop :=
  ∃ A n cap, e = .returned (.slice A n cap) ∧ w'.ownsRow w.heap.size 25 2 (.slice A n cap) n xs ∧ Ext w w'
set_option maxRecDepth 100000 in
set_option maxHeartbeats 2000000 in
theorem cloneH_any (A : Option Addr) (n cap : Nat) (hs : List Hd) (cs : List Cn) (w : World) (hn : n ≤ 1048576) (h : Seg w 2 A n (encH hs cs)) :
    Calls Try.prog 101 #[.slice A n cap] w fun e w' => RetOwn (encH hs cs) w e w' := by
  obtain ⟨i0, hi, hz0, hz1, hz2⟩ := info_parts Try.infoCnR
  have q22 : ∀ (w : World) (a : Option Addr) (n c n' c' : Nat), (binOp .eql 42 (.slice a n c) (.slice none n' c')).run Try.prog w = .ok (.bool a.isNone) w := fun w a n c n' c' => Lib.run_eql_slice_nil w _ _ a n c n' c' Try.underlying42
  have hl := h.1
  have hone := Lib.hid (oneCH hs cs)
  cases A with
  | none =>
    have h0 : n = 0 := by
      rcases Nat.eq_zero_or_pos n with h0 | h0
      · exact h0
      · obtain ⟨b, off, e, _⟩ := h.2 h0; cases e
    subst h0
    have hx := h.zero
    rw [hx]
    clear h hl hx hone hi hz0 hz1 hz2
    go_enter Try.func101, Try.ntmps101
    go_wp2
    go_ret
    exact ⟨none, 0, 0, rfl, World.ownsRow_nil _ _ _ _, Ext.refl _⟩
  | some ad =>
    have hc : Hid (∀ j u, (encH hs cs)[j]? = some u → w.cell? (ad.add j) = some u) := fun j u hu => by
      have hj : j < n * 2 := by rw [← hl]; exact (List.getElem?_eq_some_iff.1 hu).1
      obtain ⟨b, off, e, hcc⟩ := h.2 (by omega)
      injection e with e; subst e
      have e2 : (⟨b, off, none⟩ : Addr).add j = ⟨b, off + j, none⟩ := by unfold Addr.add; split <;> simp_all
      rw [e2]; exact hcc j u hu
    have HL := Lib.hid hl
    clear h hl
    go_enter Try.func101, Try.ntmps101
    go_wp2_with (at_builtin; refine wpList_append_own _ rfl _ _ 42 rfl w.heap.size 25 i0 _ 2 32 Try.underlying42 hi hz0 hz1 hz2 rfl (by omega) _ _ _ rfl (World.ownsRow_made w #[] 0 (Nat.le_refl _) (Nat.zero_le _) (by simp)) ad n cap (encH hs cs) rfl HL.out ?_ hone.out ?_ ?_ ?_ ?_)
    · intro j u hj
      exact Lib.cell?_alloc_some _ (hc.out j u hj)
    · unfold maxLen; omega
    · omega
    · simp
    intro v' w1 hown hgrow _
    go_wp2
    go_ret
    have hown' : w1.ownsRow w.heap.size 25 2 v' n (encH hs cs) := by simpa using hown
    obtain ⟨A1, c1, rfl⟩ := own_slice hown'
    exact ⟨A1, n, c1, rfl, hown', ((Ext.refl w).alloc _).grown hgrow (by intro k hk; simp [Value.ownBlock] at hk; omega)⟩

theorem kept_own {w w' : World} {row : Option Nat} {lo hi : Nat} (hg : w.grownBy w' row) (h : ∀ k, row = some k → lo ≤ k ∧ k < hi) : Kept lo hi w w' :=
  ⟨hg.os, hg.tape, hg.output, hg.size, fun i hi' ho => hg.block i hi' (fun e => by have := h i e.symm; omega)⟩
theorem blk_seg12 {w : World} {g : Nat} {t : TypeId} (B : Blk w g t #[.int .i64 0, .int .i64 0, .int .i64 0, .int .i64 0, .int .i64 0, .int .i64 0, .int .i64 0, .int .i64 0, .int .i64 0, .int .i64 0, .int .i64 0, .int .i64 0]) : Seg w 1 (some ⟨g, 0, none⟩) 12 (encI zero12) :=
  ⟨rfl, fun _ => ⟨g, 0, rfl, fun j u hu => by
    rw [Nat.zero_add, B.cell]
    have e : encI zero12 = [.int .i64 0, .int .i64 0, .int .i64 0, .int .i64 0, .int .i64 0, .int .i64 0, .int .i64 0, .int .i64 0, .int .i64 0, .int .i64 0, .int .i64 0, .int .i64 0] := rfl
    rw [e] at hu
    simpa using hu⟩⟩

set_option maxRecDepth 100000 in
set_option maxHeartbeats 4000000 in
theorem rup_any (A : Option Addr) (n cap : Nat) (cs : List Cn) (B : Option Addr) (m capb : Nat) (ts : List Tm) (bd : Int) (w : World) (hn : n ≤ 1048576) (h : SegC w A n cs) (hv : cs.all cvC = true)
    (hb : Seg w 2 B m (encT ts)) (hc : cvB ts bd = true) :
    Calls Try.prog 85 #[.slice A n cap, .agg #[.slice B m capb, .int .i64 bd]] w fun e w' => e = .returned (.bool (rupP cs ts bd)) ∧ Ext w w' := by
  have HV := Lib.hid hv
  have HC := Lib.hid hc
  obtain ⟨i0, hi, hz0, hz1, hz2⟩ := info_parts Try.infoCnR
  have HI := Lib.hid hi
  have HZ0 := Lib.hid hz0
  have HZ1 := Lib.hid hz1
  have HZ2 := Lib.hid hz2
  clear hi hz0 hz1 hz2
  have HSG := Lib.hid h
  obtain ⟨hs, hl, hS, hin⟩ := h
  have HIN := Lib.hid hin
  have HLh := Lib.hid hl
  have HS := Lib.hid hS
  have HB := Lib.hid hb
  have hn9 : n + 1 ≤ maxLen := by unfold maxLen; omega
  clear hv hc hl hS hin hb
  go_enter Try.func85, Try.ntmps85
  go_wp2_with fail
  have EB := (Ext.refl w).alloc (.cells #[.slice B m capb, .int .i64 bd] 25)
  have BB := Blk.new w 25 #[.slice B m capb, .int .i64 bd]
  have zb : (w.alloc (.cells #[.slice B m capb, .int .i64 bd] 25)).heap.size = w.heap.size + 1 := by simp
  generalize w.alloc (.cells #[.slice B m capb, .int .i64 bd] 25) = wb at EB BB zb ⊢
  have ZB := Lib.hid zb
  have HEB := Lib.hid EB
  have HBB := Lib.hid BB
  clear zb EB BB
  have KS : Hid (∀ w', Ext wb w' → w'.cell? ⟨w.heap.size, 0, none⟩ = some (.slice B m capb) ∧ w'.cell? ⟨w.heap.size, 1, none⟩ = some (.int .i64 bd)) := fun w' e => ⟨(HBB.out.ext e).cell 0, (HBB.out.ext e).cell 1⟩
  have e1 : Ext wb wb.drew := (Ext.refl _).drew
  have hmk := Try.mkI12
  have HF : Hid (∀ (W : World) (A4 A3 : Option Addr) (n3 c3 : Nat), Ext wb W → Seg W 2 A4 (n + 1) (encH hs cs ++ [.slice A3 n3 c3, .int .i64 (negD ts bd)]) → n3 ≤ maxLen → Seg W 2 A3 n3 (encT (negT ts)) → SegC W A4 (n + 1) (cs ++ [(negT ts, negD ts bd)])) :=
    fun W A4 A3 n3 c3 e s4 h3 s3 => segC_snoc HLh.out s4 (fun i h c e1 e2 => ⟨(HIN.out i h c e1 e2).1, (HIN.out i h c e1 e2).2.ext (HEB.out.trans e)⟩) h3 s3
  have HALL := Lib.hid (all_neg HV.out HC.out)
  go_region_held3 (fun w' => w'.cell? ⟨w.heap.size, 0, none⟩ = some (.slice B m capb) ∧ w'.cell? ⟨w.heap.size, 1, none⟩ = some (.int .i64 bd))
    ((refine KS.out _ ?_; first | exact E7 | exact E4 | exact E4.alloc _ | exact E3 | exact E3.alloc _ | exact (E3.alloc _).alloc _ | exact E2 | exact E2.alloc _ | exact e1 | exact e1.alloc _ | exact ((Ext.refl _).alloc _).drew))
    ((first
      | (go_at_call 101
         refine (cloneH_any A n cap hs cs _ hn (HS.out.ext (HEB.out.trans (by first | exact e1 | exact e1.alloc _ | exact ((Ext.refl _).alloc _).drew)))).mono ?_
         rintro e w2 ⟨A2, n2, k2, he2, hown2, hE2⟩
         obtain rfl : n = n2 := by have := hown2.1; rw [encH_len hs cs HLh.out] at this; have := HSG.out.len; omega
         subst he2
         have E2 : Ext wb w2 := by first | exact e1.trans hE2 | exact (e1.alloc _).trans hE2 | exact (((Ext.refl _).alloc _).drew).trans hE2
         try (have Bz : Blk w2 _ 3 #[.int .i64 0, .int .i64 0, .int .i64 0, .int .i64 0, .int .i64 0, .int .i64 0, .int .i64 0, .int .i64 0, .int .i64 0, .int .i64 0, .int .i64 0, .int .i64 0] := Blk.ext (Blk.new _ _ _) hE2)
         try (have Bz : Blk w2 _ 3 #[.int .i64 0, .int .i64 0, .int .i64 0, .int .i64 0, .int .i64 0, .int .i64 0, .int .i64 0, .int .i64 0, .int .i64 0, .int .i64 0, .int .i64 0, .int .i64 0] := Blk.ext (Blk.drew (Blk.new _ _ _)) hE2)
         have hz2 := E2.size)
      | (go_at_call 102
         refine (negation_any B m capb ts bd _ (HB.out.ext (HEB.out.trans (by first | exact E2 | exact E2.alloc _))) HC.out).mono ?_
         rintro e w3 ⟨A3, n3, k3, he3, hl3, hG3, hE3⟩
         subst he3
         have hz23 := hE3.size
         have E23 : Ext w2 w3 := by first | exact hE3 | exact ((Ext.refl _).alloc _).trans hE3
         have E3 : Ext wb w3 := E2.trans E23
         have hown3 := own_ext_keep hown2 E23
         have hS3 := hG3.seg
         have hL3 : Lies w2.heap.size w3.heap.size A3 n3 := hG3.lies.wide (by first | exact Nat.le_refl _ | (simp; done)) (Nat.le_refl _)
         have hn3 : n3 ≤ maxLen := by have := cvB_len HC.out; rw [negT_len] at hl3; unfold maxLen; omega
         try (have Bz3 := Bz.ext E23)
         try (have Bz3 : Blk w3 _ 3 #[.int .i64 0, .int .i64 0, .int .i64 0, .int .i64 0, .int .i64 0, .int .i64 0, .int .i64 0, .int .i64 0, .int .i64 0, .int .i64 0, .int .i64 0, .int .i64 0] := Blk.ext (Blk.new _ _ _) hE3)
         have hz3 := E3.size)
      | (have g3 := hown3
         refine step_append_seg _ (by rfl) (.tmp 9) (.tmp 12) 42 (by rfl) _ 25 i0 _ 2 32 Try.underlying42 HI.out HZ0.out HZ1.out HZ2.out (by rfl) (by omega) (.slice A2 n k2) n (encH hs cs) (by rfl) (by first | exact hown3.alloc _ | exact (hown3.alloc _).alloc _) (some ⟨_, 0, none⟩) 1 1 [.slice A3 n3 k3, .int .i64 (negD ts bd)] (by rfl) (by first | exact blk_seg1 (Blk.new _ _ _) | exact blk_seg1 ((Blk.new _ _ _).alloc _) | (have := blk_seg1 (Blk.new (w3.alloc (.cells #[.int .i64 0, .int .i64 0, .int .i64 0, .int .i64 0, .int .i64 0, .int .i64 0, .int .i64 0, .int .i64 0, .int .i64 0, .int .i64 0, .int .i64 0, .int .i64 0] 3)) 25 #[.slice A3 n3 k3, .int .i64 (negD ts bd)]); simpa using this)) (oneC1 _ _ _ _) (by unfold maxLen; omega) (by omega) (by first | (simp; omega) | omega) ?_
         intro A4 k4 w4 hown4 hg4
         have hK := kept_own hg4 (fun k hk => hown2.lt k hk)
         have E4 : Ext wb w4 := by first | exact (E3.alloc _).fresh hK (by first | exact Nat.le_refl _ | (simp; done)) | exact ((E3.alloc _).alloc _).fresh hK (by first | exact Nat.le_refl _ | (simp; done))
         have hS4 : Seg w4 2 A3 n3 (encT (negT ts)) := by first | exact (hS3.alloc _).kept hL3 hK (.inr (Nat.le_refl _)) | exact ((hS3.alloc _).alloc _).kept hL3 hK (.inr (Nat.le_refl _))
         have HSC4 := HF.out w4 A4 A3 n3 k3 E4 (own_parts hown4).1 hn3 hS4
         have hz23' := E23.size
         try (have Bz4 : Blk w4 _ 3 #[.int .i64 0, .int .i64 0, .int .i64 0, .int .i64 0, .int .i64 0, .int .i64 0, .int .i64 0, .int .i64 0, .int .i64 0, .int .i64 0, .int .i64 0, .int .i64 0] := Blk.kept (Blk.alloc Bz3 _) hK (by first | (left; simp; done) | (right; simp; done) | (right; omega) | (left; omega)))
         try (have Bz4 : Blk w4 _ 3 #[.int .i64 0, .int .i64 0, .int .i64 0, .int .i64 0, .int .i64 0, .int .i64 0, .int .i64 0, .int .i64 0, .int .i64 0, .int .i64 0, .int .i64 0, .int .i64 0] := Blk.kept (Blk.alloc (Blk.new w3 _ _) _) hK (.inr (by omega)))
         try (have Bz4 : Blk w4 _ 3 #[.int .i64 0, .int .i64 0, .int .i64 0, .int .i64 0, .int .i64 0, .int .i64 0, .int .i64 0, .int .i64 0, .int .i64 0, .int .i64 0, .int .i64 0, .int .i64 0] := Blk.kept (Blk.new _ _ _) hK (.inr (by simp; omega))))
      | (go_at_call 78
         refine (propagate_any A4 (n + 1) k4 (cs ++ [(negT ts, negD ts bd)]) _ 12 zero12 _ hn9 (by first | exact HSC4 | exact HSC4.alloc _) HALL.out zero12_pv (by first | exact blk_seg12 Bz4 | exact blk_seg12 (by simpa using Bz4) | exact blk_seg12 (Blk.new _ _ _))).mono ?_
         rintro e w7 ⟨A7, k7, he7, _, hE7⟩
         subst he7
         have E7 : Ext wb w7 := by first | exact E4.trans hE7 | exact (E4.alloc _).trans hE7)
      | fail))
  all_goals
    have HE7 := Lib.hid (HEB.out.trans E7)
    clear hmk e1
    try clear hHeld
    go_wp2
    go_ret
    exact ⟨ret_b rfl, HE7.out⟩

theorem rupB_yes {cs : List Cn} {ts : List Tm} {bd : Int} (h : probB cs = true) (k : cvB ts bd = true) : rupB cs ts bd = rupP cs ts bd := by
  unfold rupB; rw [h, k]; rfl

set_option maxRecDepth 100000 in
set_option maxHeartbeats 2000000 in
theorem specRup_any (A : Option Addr) (n cap : Nat) (cs : List Cn) (B : Option Addr) (m capb : Nat) (ts : List Tm) (bd : Int) (w : World) (hn : n ≤ maxLen) (h : SegC w A n cs) (hm : m ≤ maxLen) (hb : Seg w 2 B m (encT ts)) :
    Calls Try.prog 49 #[.slice A n cap, .agg #[.slice B m capb, .int .i64 bd]] w fun e w' => e = .returned (.bool (rupB cs ts bd)) ∧ Ext w w' := by
  have HL := Lib.hid h.len
  have HS := Lib.hid h
  have HB := Lib.hid hb
  clear h hb
  have EB := Lib.hid ((Ext.refl w).alloc (.cells #[.slice B m capb, .int .i64 bd] 25))
  have BB := Lib.hid (Blk.new w 25 #[.slice B m capb, .int .i64 bd])
  by_cases hv : probB cs = true
  · have HV := Lib.hid hv
    by_cases hp : cvB ts bd = true
    · have HP := Lib.hid hp
      have HO := Lib.hid (rupB_yes hv hp)
      have hn4 : n ≤ 1048576 := by have := probB_le hv; have := HL.out; omega
      clear hv hp
      go_enter Try.func49, Try.ntmps49
      go_wp2_with fail
      refine (calls_val (specProbV_any A n cap cs _ hn (HS.out.ext EB.out)) (congrArg Value.bool HV.out)).mono ?_
      rintro e w1 ⟨rfl, hE1⟩
      have b0 := (BB.out.ext hE1).cell 0
      have b1 := (BB.out.ext hE1).cell 1
      go_wp2_with fail
      refine (calls_val (specCV_any B m capb ts bd _ hm (HB.out.ext (EB.out.trans hE1))) (congrArg Value.bool HP.out)).mono ?_
      rintro e w2 ⟨rfl, hE2⟩
      have E2 := Lib.hid ((EB.out.trans hE1).trans hE2)
      have c0 := (BB.out.ext (hE1.trans hE2)).cell 0
      have c1 := (BB.out.ext (hE1.trans hE2)).cell 1
      clear b0 b1 hE1 hE2
      go_wp2_with fail
      refine (l3Rup_any A n cap cs B m capb ts bd _ hn4 (HS.out.ext E2.out) (probB_all HV.out) hm (HB.out.ext E2.out) HP.out).mono ?_
      rintro e w3 ⟨rfl, hE3⟩
      have E3 := Lib.hid (E2.out.trans hE3)
      clear c0 c1 hE3
      go_wp2
      go_ret
      exact ⟨ret_b HO.out.symm, E3.out⟩
    · have hp' : cvB ts bd = false := by simpa using hp
      have HP := Lib.hid hp'
      have HO : Hid (rupB cs ts bd = false) := by unfold rupB Hid; rw [hp', hv]; rfl
      clear hv hp hp'
      go_enter Try.func49, Try.ntmps49
      go_wp2_with fail
      refine (calls_val (specProbV_any A n cap cs _ hn (HS.out.ext EB.out)) (congrArg Value.bool HV.out)).mono ?_
      rintro e w1 ⟨rfl, hE1⟩
      have b0 := (BB.out.ext hE1).cell 0
      have b1 := (BB.out.ext hE1).cell 1
      go_wp2_with fail
      refine (calls_val (specCV_any B m capb ts bd _ hm (HB.out.ext (EB.out.trans hE1))) (congrArg Value.bool HP.out)).mono ?_
      rintro e w2 ⟨rfl, hE2⟩
      have E2 := Lib.hid ((EB.out.trans hE1).trans hE2)
      clear b0 b1 hE1 hE2
      go_wp2
      go_ret
      exact ⟨ret_b HO.out.symm, E2.out⟩
  · have hf : probB cs = false := by simpa using hv
    have HV := Lib.hid hf
    have HO : Hid (rupB cs ts bd = false) := by unfold rupB Hid; rw [hf]; rfl
    clear hv hf
    go_enter Try.func49, Try.ntmps49
    go_wp2_with fail
    refine (calls_val (specProbV_any A n cap cs _ hn (HS.out.ext EB.out)) (congrArg Value.bool HV.out)).mono ?_
    rintro e w1 ⟨rfl, hE1⟩
    have E1 := Lib.hid (EB.out.trans hE1)
    clear hE1
    go_wp2
    go_ret
    exact ⟨ret_b HO.out.symm, E1.out⟩

set_option maxRecDepth 100000 in
set_option maxHeartbeats 2000000 in
theorem implRup_any (A : Option Addr) (n cap : Nat) (cs : List Cn) (B : Option Addr) (m capb : Nat) (ts : List Tm) (bd : Int) (w : World) (hn : n ≤ maxLen) (h : SegC w A n cs) (hm : m ≤ maxLen) (hb : Seg w 2 B m (encT ts)) :
    Calls Try.prog 48 #[.slice A n cap, .agg #[.slice B m capb, .int .i64 bd]] w fun e w' => e = .returned (.bool (rupB cs ts bd)) ∧ Ext w w' := by
  have HL := Lib.hid h.len
  have HS := Lib.hid h
  have HB := Lib.hid hb
  clear h hb
  have EB := Lib.hid ((Ext.refl w).alloc (.cells #[.slice B m capb, .int .i64 bd] 25))
  have BB := Lib.hid (Blk.new w 25 #[.slice B m capb, .int .i64 bd])
  by_cases hv : probB cs = true
  · have HV := Lib.hid hv
    by_cases hp : cvB ts bd = true
    · have HP := Lib.hid hp
      have HO := Lib.hid (rupB_yes hv hp)
      have hn4 : n ≤ 1048576 := by have := probB_le hv; have := HL.out; omega
      clear hv hp
      go_enter Try.func48, Try.ntmps48
      go_wp2_with fail
      refine (calls_val (implProbV_any A n cap cs _ hn (HS.out.ext EB.out)) (congrArg Value.bool HV.out)).mono ?_
      rintro e w1 ⟨rfl, hE1⟩
      have b0 := (BB.out.ext hE1).cell 0
      have b1 := (BB.out.ext hE1).cell 1
      go_wp2_with fail
      refine (calls_val (implCV_any B m capb ts bd _ hm (HB.out.ext (EB.out.trans hE1))) (congrArg Value.bool HP.out)).mono ?_
      rintro e w2 ⟨rfl, hE2⟩
      have E2 := Lib.hid ((EB.out.trans hE1).trans hE2)
      have c0 := (BB.out.ext (hE1.trans hE2)).cell 0
      have c1 := (BB.out.ext (hE1.trans hE2)).cell 1
      clear b0 b1 hE1 hE2
      go_wp2_with fail
      refine (rup_any A n cap cs B m capb ts bd _ hn4 (HS.out.ext E2.out) (probB_all HV.out) (HB.out.ext E2.out) HP.out).mono ?_
      rintro e w3 ⟨rfl, hE3⟩
      have E3 := Lib.hid (E2.out.trans hE3)
      clear c0 c1 hE3
      go_wp2
      go_ret
      exact ⟨ret_b HO.out.symm, E3.out⟩
    · have hp' : cvB ts bd = false := by simpa using hp
      have HP := Lib.hid hp'
      have HO : Hid (rupB cs ts bd = false) := by unfold rupB Hid; rw [hp', hv]; rfl
      clear hv hp hp'
      go_enter Try.func48, Try.ntmps48
      go_wp2_with fail
      refine (calls_val (implProbV_any A n cap cs _ hn (HS.out.ext EB.out)) (congrArg Value.bool HV.out)).mono ?_
      rintro e w1 ⟨rfl, hE1⟩
      have b0 := (BB.out.ext hE1).cell 0
      have b1 := (BB.out.ext hE1).cell 1
      go_wp2_with fail
      refine (calls_val (implCV_any B m capb ts bd _ hm (HB.out.ext (EB.out.trans hE1))) (congrArg Value.bool HP.out)).mono ?_
      rintro e w2 ⟨rfl, hE2⟩
      have E2 := Lib.hid ((EB.out.trans hE1).trans hE2)
      clear b0 b1 hE1 hE2
      go_wp2
      go_ret
      exact ⟨ret_b HO.out.symm, E2.out⟩
  · have hf : probB cs = false := by simpa using hv
    have HV := Lib.hid hf
    have HO : Hid (rupB cs ts bd = false) := by unfold rupB Hid; rw [hf]; rfl
    clear hv hf
    go_enter Try.func48, Try.ntmps48
    go_wp2_with fail
    refine (calls_val (implProbV_any A n cap cs _ hn (HS.out.ext EB.out)) (congrArg Value.bool HV.out)).mono ?_
    rintro e w1 ⟨rfl, hE1⟩
    have E1 := Lib.hid (EB.out.trans hE1)
    clear hE1
    go_wp2
    go_ret
    exact ⟨ret_b HO.out.symm, E1.out⟩
end Go.Proofs.Ytihbgajlnbchlaa
