/- NormalForm, the program's and the reference's: the walks over the normal forms of NF and NFi. -/
import Derived.Test.YtmbdfnimmjomfaaNF
import Derived.Test.YtmbdfnimmjomfaaInts
namespace Go.Proofs.Ytmbdfnimmjomfaa
open Go.RowKit

theorem smT_no {ts : List Tm} {t : Tm} (hm : t ∈ ts) (h : litB t.2 = false ∨ t.1 < -1000 ∨ 1000 < t.1) : smT ts = false := by
  rw [Bool.eq_false_iff]
  intro hs
  have := smT_at hs t hm
  rcases h with h | h | h
  · rw [h] at this; cases this.1
  · omega
  · omega
theorem smT_snoc {ts : List Tm} {t : Tm} (h : smT ts = true) (hl : litB t.2 = true) (h1 : -1000 ≤ t.1) (h2 : t.1 ≤ 1000) : smT (ts ++ [t]) = true :=
  smT_append h (List.all_eq_true.2 fun x hx => by
    obtain rfl : x = t := by simpa using hx
    rw [Bool.and_eq_true]; exact ⟨hl, by unfold inB; rw [decide_eq_true_eq]; omega⟩)
theorem nfB_short {ts : List Tm} {bd : Int} (h : 40 < ts.length ∨ bd < -20000 ∨ 20000 < bd ∨ smT ts = false) : nfB ts bd = false := by
  rw [Bool.eq_false_iff]
  intro hb
  obtain ⟨h1, h2, h3, _⟩ := nfB_parts hb
  rcases h with h | h | h | h
  · omega
  · omega
  · omega
  · rw [h] at h3; cases h3
theorem nfB_small {ts : List Tm} {bd : Int} (h1 : ts.length ≤ 40) (h2 : -20000 ≤ bd ∧ bd ≤ 20000) (h3 : smT ts = true) : nfB ts bd = noB ts bd := by
  unfold nfB; rw [decide_eq_true h1, h3]; unfold inB; rw [decide_eq_true h2]; rfl
theorem nf_v {ts : List Tm} {bd : Int} (h1 : ts.length ≤ 40) (h2 : -20000 ≤ bd ∧ bd ≤ 20000) (h3 : smT ts = true) : vT ts bd = nfT ts bd ∧ vD ts bd = nfD ts bd := by
  unfold vT vD nfT nfD; rw [nfB_small h1 h2 h3]; exact ⟨rfl, rfl⟩

set_option maxRecDepth 100000 in
set_option maxHeartbeats 4000000 in
theorem specNF_any (A : Option Addr) (n cap : Nat) (ts : List Tm) (bd : Int) (w : World) (hn : n ≤ maxLen) (h : Seg w 2 A n (encT ts)) :
    Calls Try.prog 9 #[.slice A n cap, .int .i64 bd] w fun e w' => RetCB (nfT ts bd) (nfD ts bd) (nfB ts bd) w e w' := by
  have hno : Hid (∀ W' : World, Ext w W' → nfB ts bd = false → RetCB (nfT ts bd) (nfD ts bd) (nfB ts bd) w (.returned (.tuple #[.agg #[.slice none 0 0, .int .i64 0], .bool false])) W') := fun W' hE hc =>
    (RetCB.zero hE).of_eq (nfT_no hc).symm (nfD_no hc).symm hc.symm
  have HL := Lib.hid h.lenT
  unfold maxLen at hn
  by_cases h40 : 40 < n
  · have hc := Lib.hid (nfB_short (bd := bd) (.inl (by rw [HL.out]; exact h40)))
    clear h
    go_enter Try.func9, Try.ntmps9
    go_wp2
    refine bodyPost_ret (v := .tuple #[.agg #[.slice none 0 0, .int .i64 0], .bool false]) (by simp [results, Try.results9, go_sem]) rfl ?_
    refine hno.out _ ?_ hc.out
    repeat (first | exact Ext.refl _ | refine Ext.setNew ?_ (by simp) _ | refine Ext.alloc ?_ _)
  by_cases hb1 : bd < -20000
  · have hc := Lib.hid (nfB_short (ts := ts) (bd := bd) (.inr (.inl hb1)))
    clear h
    go_enter Try.func9, Try.ntmps9
    go_wp2
    refine bodyPost_ret (v := .tuple #[.agg #[.slice none 0 0, .int .i64 0], .bool false]) (by simp [results, Try.results9, go_sem]) rfl ?_
    refine hno.out _ ?_ hc.out
    repeat (first | exact Ext.refl _ | refine Ext.setNew ?_ (by simp) _ | refine Ext.alloc ?_ _)
  by_cases hb2 : 20000 < bd
  · have hc := Lib.hid (nfB_short (ts := ts) (bd := bd) (.inr (.inr (.inl hb2))))
    clear h
    go_enter Try.func9, Try.ntmps9
    go_wp2
    refine bodyPost_ret (v := .tuple #[.agg #[.slice none 0 0, .int .i64 0], .bool false]) (by simp [results, Try.results9, go_sem]) rfl ?_
    refine hno.out _ ?_ hc.out
    repeat (first | exact Ext.refl _ | refine Ext.setNew ?_ (by simp) _ | refine Ext.alloc ?_ _)
  have hN := Lib.hid h
  clear h
  go_enter Try.func9, Try.ntmps9
  go_wp2_with fail
  go_loopw [6] (fun i wr => ∃ (k : Nat), k ≤ n ∧ i = .int .i64 k ∧ Ext w wr ∧ Hid (Blk wr w.heap.size 26 #[.slice none 0 0, .int .i64 0]) ∧ Hid (smT (ts.take k) = true)) (fun i _ => n - (intOf i).toNat)
  case atStart => exact ⟨0, by omega, rfl, (Ext.refl _).alloc _, Blk.new _ _ _, rfl⟩
  case round =>
    obtain ⟨k, hk, rfl, hE, hB0, hsm⟩ := hrel
    have r0 := hB0.out.cell 0
    have r1 := hB0.out.cell 1
    have q0 := hB0.out.frozen 0
    have q1 := hB0.out.frozen 1
    by_cases hlt : k < n
    · obtain ⟨b, off, c, l, rfl, hx, c1, c2⟩ := (hN.out.ext hE).term hlt
      have HX := Lib.hid hx
      clear hx
      by_cases hl : litB l = true
      · have HLt := Lib.hid hl
        by_cases hc1 : c < -1000
        · have hc := Lib.hid (nfB_short (bd := bd) (.inr (.inr (.inr (smT_no (List.mem_of_getElem? HX.out) (.inr (.inl hc1)))))))
          clear hl
          go_wp2_with fail
          refine (calls_val (l1Lit_any l _) (congrArg Value.bool HLt.out)).mono ?_
          rintro e w1 ⟨rfl, rfl⟩
          go_wp2
          refine bodyPost_ret (v := .tuple #[.agg #[.slice none 0 0, .int .i64 0], .bool false]) (by simp [results, Try.results9, go_sem, r0, r1]) rfl ?_
          exact hno.out _ ((hE.setNew (by simp) _).setNew (by simp) _) hc.out
        · by_cases hc2 : 1000 < c
          · have hc := Lib.hid (nfB_short (bd := bd) (.inr (.inr (.inr (smT_no (List.mem_of_getElem? HX.out) (.inr (.inr hc2)))))))
            clear hl
            go_wp2_with fail
            refine (calls_val (l1Lit_any l _) (congrArg Value.bool HLt.out)).mono ?_
            rintro e w1 ⟨rfl, rfl⟩
            go_wp2
            refine bodyPost_ret (v := .tuple #[.agg #[.slice none 0 0, .int .i64 0], .bool false]) (by simp [results, Try.results9, go_sem, r0, r1]) rfl ?_
            exact hno.out _ ((hE.setNew (by simp) _).setNew (by simp) _) hc.out
          · have hs2 : Hid (smT (ts.take (k + 1)) = true) := by
              rw [Hid, take_of_get _ _ _ HX.out]
              exact smT_snoc hsm.out hl (by simp only; omega) (by simp only; omega)
            clear hl
            go_wp2_with fail
            refine (calls_val (l1Lit_any l _) (congrArg Value.bool HLt.out)).mono ?_
            rintro e w1 ⟨rfl, rfl⟩
            go_wp2
            go_roundw
            case rel => exact ⟨k + 1, by omega, by go_num, hE, hB0.out, hs2.out⟩
            case measure => simp [intOf]; omega
      · have hl' : litB l = false := by simpa using hl
        have hc := Lib.hid (nfB_short (bd := bd) (.inr (.inr (.inr (smT_no (List.mem_of_getElem? HX.out) (.inl hl'))))))
        have HLf := Lib.hid hl'
        clear hl hl'
        go_wp2_with fail
        refine (calls_val (l1Lit_any l _) (congrArg Value.bool HLf.out)).mono ?_
        rintro e w1 ⟨rfl, rfl⟩
        go_wp2
        refine bodyPost_ret (v := .tuple #[.agg #[.slice none 0 0, .int .i64 0], .bool false]) (by simp [results, Try.results9, go_sem, r0, r1]) rfl ?_
        exact hno.out _ ((hE.setNew (by simp) _).setNew (by simp) _) hc.out
    · obtain rfl : k = n := by omega
      rw [List.take_of_length_le (by rw [HL.out]; omega)] at hsm
      have HS := Lib.hid (hN.out.ext hE)
      have hl40 : ts.length ≤ 40 := by rw [HL.out]; omega
      obtain ⟨e1, e2⟩ := nf_v (bd := bd) hl40 (by omega) hsm.out
      have HE1 := Lib.hid e1
      have HE2 := Lib.hid e2
      have HE3 := Lib.hid (nfB_small (bd := bd) hl40 (by omega) hsm.out)
      clear e1 e2 r0 r1 q0 q1
      go_wp2_with fail
      refine (l1Net_any A k cap ts bd _ (by omega) HS.out hsm.out (by omega)).mono ?_
      rintro e w1 ⟨A1, c1, rfl, hG1, hE1⟩
      go_wp2_with fail
      refine (l1Normal_any A1 c1 ts bd _ hG1.seg hl40 hsm.out (by omega)).mono ?_
      rintro e w2 ⟨A2, n2, c2, rfl, hl2, hG2, hE2⟩
      have hz1 := ((hB0.out.ext hE1)).lt
      have HB := Lib.hid ((hB0.out.ext hE1).ext hE2)
      have HW1 := Lib.hid (hE.trans hE1)
      have HW2 := Lib.hid ((hE.trans hE1).trans hE2)
      have hzz := HB.out.lt
      have r0 := HB.out.cell 0
      have r1 := HB.out.cell 1
      have q0 := HB.out.frozen 0
      have q1 := HB.out.frozen 1
      have HG2 := Lib.hid hG2
      have HL2 := Lib.hid hl2
      clear hG1 hE1 hE2 hG2 hl2 hE
      go_wp2
      refine bodyPost_ret (v := .tuple #[.agg #[.slice A2 n2 c2, .int .i64 (vD ts bd)], .bool (noB ts bd)]) (by simp [results, Try.results9, go_sem, r0, r1]; try rfl) rfl ?_
      have K : Kept w.heap.size (w.heap.size + 1) w2 _ := ((Kept.refl _ _ w2).setIn (p := ⟨w.heap.size, 0, none⟩) (by simp) (.slice A2 n2 c2)).setIn (p := ⟨w.heap.size, 1, none⟩) (by simp) (.int .i64 (vD ts bd))
      refine RetCB.of_eq ?_ HE1.out HE2.out HE3.out.symm
      exact ⟨A2, n2, c2, rfl, HL2.out, (HG2.out.kept K (by omega)).from_ HW1.out, (HW2.out.setNew (by simp) _).setNew (by simp) _⟩
end Go.Proofs.Ytmbdfnimmjomfaa
