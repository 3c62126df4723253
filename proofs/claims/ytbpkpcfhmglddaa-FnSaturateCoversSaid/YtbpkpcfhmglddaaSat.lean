/- SaturateConstraint, the program's and the reference's. -/
import Derived.Test.YtbpkpcfhmglddaaTot
import Derived.Test.YtbpkpcfhmglddaaMemE
import Derived.Test.YtbpkpcfhmglddaaToT
import Derived.Test.YtbpkpcfhmglddaaLastS
import Derived.Deep.AppendLies
namespace Go.Proofs.Ytbpkpcfhmglddaa
open Go.RowKit

def satM (c bd : Int) : Int := if bd < c then bd else c
def satMap (ts : List Tm) (bd : Int) : List Tm := ts.map fun t => (satM t.1 bd, t.2)
theorem satMap_len (ts : List Tm) (bd : Int) : (satMap ts bd).length = ts.length := by simp [satMap]
theorem satMap_snoc (ts : List Tm) (t : Tm) (bd : Int) : satMap (ts ++ [t]) bd = satMap ts bd ++ [(satM t.1 bd, t.2)] := by simp [satMap]
def saT (ts : List Tm) (bd : Int) : List Tm := if 0 < bd then satMap ts bd else []
theorem saT_le (ts : List Tm) (bd : Int) : (saT ts bd).length ≤ ts.length := by unfold saT; split <;> simp [satMap_len]
def stT (ts : List Tm) (bd : Int) : List Tm := if cvB ts bd = true then saT ts bd else []
def stD (ts : List Tm) (bd : Int) : Int := if cvB ts bd = true then bd else 0
theorem stT_len (ts : List Tm) (bd : Int) : (stT ts bd).length ≤ 1048576 := by
  unfold stT; split
  · rename_i h; have := cvB_len h; have := saT_le ts bd; omega
  · simp

theorem Try.infoTmS : (Try.prog.info? 38).map (fun i => (i.zero, i.size, i.bytes)) = some (some (.agg #[.int .i64 0, .int .i64 0]), 2, 16) := by kernel_rfl

set_option maxRecDepth 100000 in
set_option maxHeartbeats 2000000 in
theorem implSat_any (A : Option Addr) (n cap : Nat) (ts : List Tm) (bd : Int) (w : World) (hn : n ≤ maxLen) (h : Seg w 2 A n (encT ts)) :
    Calls Try.prog 15 #[.agg #[.slice A n cap, .int .i64 bd]] w fun e w' => RetCB (stT ts bd) (stD ts bd) (cvB ts bd) w e w' := by
  by_cases hv : cvB ts bd = true
  · have HL := Lib.hid h.lenT
    have hn12 : n ≤ 12 := by have := cvB_len hv; rw [HL.out] at this; exact this
    have hb := cvB_bd hv
    obtain ⟨i0, hi, hz0, hz1, hz2⟩ := info_parts Try.infoTmS
    have HI := Lib.hid hi
    have HZ0 := Lib.hid hz0
    have HZ1 := Lib.hid hz1
    have HZ2 := Lib.hid hz2
    have HV := Lib.hid hv
    clear hi hz0 hz1 hz2 hv
    go_enter Try.func15, Try.ntmps15
    go_wp2_with fail
    refine (implCV_any A n cap ts bd _ hn ((h.alloc _).alloc _)).mono ?_
    rintro e wc ⟨rfl, hEc⟩
    have hv := HV.out
    rw [hv]
    clear hv
    obtain ⟨B0, B1⟩ := Blk.of2 hEc
    have b0 := B0.cell 0
    have b1 := B0.cell 1
    have hzc := B1.lt
    have hzb := B0.lt
    have EW : Ext w wc := (((Ext.refl w).alloc _).alloc _).trans hEc
    by_cases h0 : 0 < bd
    · have HB0 := Lib.hid B0
      have HB1 := Lib.hid B1
      have hN := Lib.hid h
      clear B0 B1 h hEc
      go_wp2_with fail
      go_loopw [20] (fun i wr => ∃ (j : Nat), j ≤ n ∧ i = .int .i64 j ∧ Ext w wr ∧ Hid (Blk wr w.heap.size 25 #[.slice A n cap, .int .i64 bd]) ∧ Hid (Blk wr (w.heap.size + 1) 25 #[.slice none 0 0, .int .i64 0]) ∧ ∃ v, Hid (Blk wr wc.heap.size 25 #[v, .int .i64 bd]) ∧ Hid (wr.ownsRow (wc.heap.size + 1) 38 2 v j (encT (satMap (ts.take j) bd)))) (fun i _ => n - (intOf i).toNat)
      case atStart => exact ⟨0, by omega, rfl, EW.alloc _, HB0.out.alloc _, HB1.out.alloc _, .slice none 0 0, Blk.new _ _ _, World.ownsRow_nil _ _ _ _⟩
      case round =>
        clear b0 b1 EW HB0 HB1
        obtain ⟨j, hj, rfl, hE, hBx, hB0, v, hB1, hown⟩ := hrel
        have b0 := hBx.out.cell 1
        have b1 := hB1.out.cell 0
        have hsz := hB1.out.lt
        by_cases hlt : j < n
        · obtain ⟨b, off, c, l, rfl, hx, c1, c2⟩ := (hN.out.ext hE).term hlt
          have hbl := World.block_lt_of_cell? _ _ c1
          simp only at hbl
          have HX := Lib.hid hx
          clear hx
          obtain ⟨m, hm⟩ : ∃ m, Hid (satM c bd = m) := ⟨_, rfl⟩
          have hmm : (bd < c ∧ bd = m) ∨ (¬ bd < c ∧ c = m) := by
            have := hm.out; unfold satM at this; split at this <;> omega
          have hxb : wc.heap.size < wr.heap.size := hsz
          have hxw : w.heap.size < wr.heap.size := by omega
          rcases hmm with ⟨hcb, rfl⟩ | ⟨hcb, rfl⟩
          all_goals
            go_wp2_with (first
              | (at_builtin
                 first
                 | refine wpList_append_own _ rfl (.tmp 25) (.tmp 34) 23 rfl (wc.heap.size + 1) 38 i0 _ 2 16 Try.underlying23 HI.out HZ0.out HZ1.out HZ2.out rfl (by omega) v j _ rfl ((hown.out.alloc _).alloc _) ⟨wr.heap.size + 1, 0, none⟩ 1 1 [.int .i64 bd, .int .i64 l] rfl rfl (by have := cell_two_new (wr.alloc (.cells #[.int .i64 c, .int .i64 l] 38)) (.int .i64 bd) (.int .i64 l) 38; rw [World.size_alloc] at this; exact this) ?_ ?_ ?_ ?_ ?_
                 | refine wpList_append_own _ rfl (.tmp 25) (.tmp 34) 23 rfl (wc.heap.size + 1) 38 i0 _ 2 16 Try.underlying23 HI.out HZ0.out HZ1.out HZ2.out rfl (by omega) v j _ rfl ((hown.out.alloc _).alloc _) ⟨wr.heap.size + 1, 0, none⟩ 1 1 [.int .i64 c, .int .i64 l] rfl rfl (by have := cell_two_new (wr.alloc (.cells #[.int .i64 c, .int .i64 l] 38)) (.int .i64 c) (.int .i64 l) 38; rw [World.size_alloc] at this; exact this) ?_ ?_ ?_ ?_ ?_
                 (intro u hu; simp at hu; rcases hu with rfl | rfl <;> rfl)
                 (unfold maxLen; omega)
                 omega
                 (simp; omega)
                 intro v1 w1 hown1 hg1 _
                 obtain ⟨A1, k1, rfl⟩ := own_slice hown1
                 have BB := push_pre (hB1.out.alloc _) (hown.out.alloc _) (by omega) hg1
                 have bb := BB.cell 0
                 have fz := BB.frozen 0
                 clear BB))
            obtain ⟨E1, K1, O1⟩ := push_box (hE.alloc _) (hB1.out.alloc _) (hown.out.alloc _) (by omega) (by omega) (by omega) hg1 hown1
            have K0 := push_blk (gc := wc.heap.size) (v1 := .slice A1 (j + 1) k1) (hB0.out.alloc _) (hown.out.alloc _) (by omega) (by omega) hg1
            have Kx := push_blk (gc := wc.heap.size) (v1 := .slice A1 (j + 1) k1) (hBx.out.alloc _) (hown.out.alloc _) (by omega) (by omega) hg1
            go_roundw
            case rel =>
              refine ⟨j + 1, by omega, by go_num, E1, Kx, K0, _, K1, ?_⟩
              rw [take_of_get _ _ _ HX.out, satMap_snoc, encT_append, hm.out]
              simpa [encT, Hid] using O1
            case measure => simp [intOf]; omega
        · obtain rfl : j = n := by omega
          obtain ⟨A1, c1, rfl⟩ := own_slice hown.out
          have b2 := hB1.out.cell 1
          have r0 := hB0.out.cell 0
          have r1 := hB0.out.cell 1
          have q0 := hB0.out.frozen 0
          have q1 := hB0.out.frozen 1
          have hz := hB0.out.lt
          go_wp2
          refine bodyPost_ret (v := .tuple #[.agg #[.slice A1 j c1, .int .i64 bd], .bool true]) (by simp [results, Try.results15, go_sem, r0, r1]) rfl ?_
          have K : Kept (w.heap.size + 1) (w.heap.size + 2) wr _ := ((Kept.refl _ _ wr).setIn (p := ⟨w.heap.size + 1, 0, none⟩) (by simp) (.slice A1 j c1)).setIn (p := ⟨w.heap.size + 1, 1, none⟩) (by simp) (.int .i64 bd)
          have G := own_got2 (w := w) hown.out K (by omega) (by omega)
          rw [List.take_of_length_le (by rw [HL.out]; omega)] at G
          refine ⟨A1, j, c1, by unfold stD; rw [if_pos HV.out, HV.out], by unfold stT saT; rw [if_pos HV.out, if_pos h0, satMap_len, HL.out], ?_, (hE.setNew (by simp) _).setNew (by simp) _⟩
          unfold stT saT
          rw [if_pos HV.out, if_pos h0]
          exact G
    · have r0 := B1.cell 0
      have r1 := B1.cell 1
      have q0 := B1.frozen 0
      have q1 := B1.frozen 1
      obtain rfl : bd = 0 := by omega
      clear h B0 B1
      go_wp2
      refine bodyPost_ret (v := .tuple #[.agg #[.slice none 0 0, .int .i64 0], .bool true]) (by simp [results, Try.results15, go_sem, r0, r1, hzc]) rfl ?_
      exact ⟨none, 0, 0, by unfold stD; rw [if_pos HV.out, HV.out], by unfold stT saT; rw [if_pos HV.out, if_neg (by omega)]; rfl, by unfold stT saT; rw [if_pos HV.out, if_neg (by omega)]; exact Got.nil' _ _ _ _, ((EW.setNew (by simp) _).setNew (by simp) _).alloc _⟩
  · have hf : cvB ts bd = false := by simpa using hv
    have HV := Lib.hid hf
    clear hv
    go_enter Try.func15, Try.ntmps15
    go_wp2_with fail
    refine (implCV_any A n cap ts bd _ hn ((h.alloc _).alloc _)).mono ?_
    rintro e w1 ⟨rfl, hE1⟩
    rw [hf]
    clear hf h
    obtain ⟨B0, B1⟩ := Blk.of2 hE1
    have r0 := B1.cell 0
    have r1 := B1.cell 1
    have q0 := B1.frozen 0
    have q1 := B1.frozen 1
    clear B0 B1
    go_wp2
    refine bodyPost_ret (v := .tuple #[.agg #[.slice none 0 0, .int .i64 0], .bool false]) (by simp [results, Try.results15, go_sem, r0, r1]) rfl ?_
    have E1 : Ext w w1 := (((Ext.refl w).alloc _).alloc _).trans hE1
    exact (RetCB.zero ((E1.setNew (by simp) _).setNew (by simp) _)).of_eq (by unfold stT; rw [if_neg (by rw [HV.out]; simp)]) (by unfold stD; rw [if_neg (by rw [HV.out]; simp)]) HV.out.symm

set_option maxRecDepth 100000 in
set_option maxHeartbeats 2000000 in
theorem l2Sat_any (A : Option Addr) (n cap : Nat) (ts : List Tm) (bd : Int) (w : World) (h : Seg w 2 A n (encT ts)) (hv : cvB ts bd = true) :
    Calls Try.prog 36 #[.agg #[.slice A n cap, .int .i64 bd]] w fun e w' => RetC (saT ts bd) bd w e w' := by
  have HL := Lib.hid h.lenT
  have hn12 : n ≤ 12 := by have := cvB_len hv; rw [HL.out] at this; exact this
  have hb := cvB_bd hv
  obtain ⟨i0, hi, hz0, hz1, hz2⟩ := info_parts Try.infoTmS
  have HI := Lib.hid hi
  have HZ0 := Lib.hid hz0
  have HZ1 := Lib.hid hz1
  have HZ2 := Lib.hid hz2
  have HV := Lib.hid hv
  clear hi hz0 hz1 hz2 hv
  by_cases h0 : 0 < bd
  · have hN := Lib.hid h
    have hg0 : decide (0 < bd) = true := decide_eq_true h0
    clear h
    go_enter Try.func36, Try.ntmps36
    go_wp2_with fail
    go_loopw [4] (fun i wr => ∃ (j : Nat), j ≤ n ∧ i = .int .i64 j ∧ Ext w wr ∧ Hid (Blk wr w.heap.size 25 #[.slice A n cap, .int .i64 bd]) ∧ Hid (Blk wr (w.heap.size + 1) 25 #[.slice none 0 0, .int .i64 0]) ∧ ∃ v, Hid (Blk wr (w.heap.size + 2) 25 #[v, .int .i64 bd]) ∧ Hid (wr.ownsRow (w.heap.size + 3) 38 2 v j (encT (satMap (ts.take j) bd)))) (fun i _ => n - (intOf i).toNat)
    case atStart => exact ⟨0, by omega, rfl, (((Ext.refl w).alloc _).alloc _).alloc _, ((Blk.new _ _ _).alloc _).alloc _, by
        have := (Blk.new (w.alloc (.cells #[.slice A n cap, .int .i64 bd] 25)) 25 #[.slice none 0 0, .int .i64 0]).alloc (.cells #[.slice none 0 0, .int .i64 bd] 25)
        rw [World.size_alloc] at this; exact this, .slice none 0 0, by
        have := Blk.new ((w.alloc (.cells #[.slice A n cap, .int .i64 bd] 25)).alloc (.cells #[.slice none 0 0, .int .i64 0] 25)) 25 #[.slice none 0 0, .int .i64 bd]
        rw [World.size_alloc, World.size_alloc] at this; exact this, World.ownsRow_nil _ _ _ _⟩
    case round =>
      obtain ⟨j, hj, rfl, hE, hBx, hB0, v, hB1, hown⟩ := hrel
      have b0 := hBx.out.cell 0
      have b0' := hBx.out.cell 1
      have b1 := hB1.out.cell 0
      have hsz := hB1.out.lt
      by_cases hlt : j < n
      · obtain ⟨b, off, c, l, rfl, hx, c1, c2⟩ := (hN.out.ext hE).term hlt
        have hbl := World.block_lt_of_cell? _ _ c1
        simp only at hbl
        have HX := Lib.hid hx
        clear hx
        have hxw : w.heap.size < wr.heap.size := by omega
        obtain ⟨m, hm⟩ : ∃ m, Hid (satM c bd = m) := ⟨_, rfl⟩
        have hmm : (bd < c ∧ bd = m) ∨ (¬ bd < c ∧ c = m) := by
          have := hm.out; unfold satM at this; split at this <;> omega
        rcases hmm with ⟨hcb, rfl⟩ | ⟨hcb, rfl⟩
        all_goals
          go_wp2_with (first
            | (at_builtin
               first
               | refine wpList_append_own _ rfl (.tmp 35) (.tmp 37) 23 rfl (w.heap.size + 3) 38 i0 _ 2 16 Try.underlying23 HI.out HZ0.out HZ1.out HZ2.out rfl (by omega) v j _ rfl ((hown.out.alloc _).alloc _) ⟨wr.heap.size + 1, 0, none⟩ 1 1 [.int .i64 bd, .int .i64 l] rfl rfl (by have := cell_two_new (wr.alloc (.cells #[.int .i64 bd, .int .i64 l] 38)) (.int .i64 bd) (.int .i64 l) 38; rw [World.size_alloc] at this; exact this) ?_ ?_ ?_ ?_ ?_
               | refine wpList_append_own _ rfl (.tmp 35) (.tmp 37) 23 rfl (w.heap.size + 3) 38 i0 _ 2 16 Try.underlying23 HI.out HZ0.out HZ1.out HZ2.out rfl (by omega) v j _ rfl ((hown.out.alloc _).alloc _) ⟨wr.heap.size + 1, 0, none⟩ 1 1 [.int .i64 c, .int .i64 l] rfl rfl (by have := cell_two_new (wr.alloc (.cells #[.int .i64 c, .int .i64 l] 38)) (.int .i64 c) (.int .i64 l) 38; rw [World.size_alloc] at this; exact this) ?_ ?_ ?_ ?_ ?_
               (intro u hu; simp at hu; rcases hu with rfl | rfl <;> rfl)
               (unfold maxLen; omega)
               omega
               (simp; omega)
               intro v1 w1 hown1 hg1 _
               obtain ⟨A1, k1, rfl⟩ := own_slice hown1
               have BB := push_pre (hB1.out.alloc _) (hown.out.alloc _) (by omega) hg1
               have bb := BB.cell 0
               have fz := BB.frozen 0
               clear BB))
          obtain ⟨E1, K1, O1⟩ := push_box (hE.alloc _) (hB1.out.alloc _) (hown.out.alloc _) (by omega) (by omega) (by omega) hg1 hown1
          have K0 := push_blk (gc := w.heap.size + 2) (v1 := .slice A1 (j + 1) k1) (hB0.out.alloc _) (hown.out.alloc _) (by omega) (by omega) hg1
          have Kx := push_blk (gc := w.heap.size + 2) (v1 := .slice A1 (j + 1) k1) (hBx.out.alloc _) (hown.out.alloc _) (by omega) (by omega) hg1
          go_roundw
          case rel =>
            refine ⟨j + 1, by omega, by go_num, E1, Kx, K0, _, K1, ?_⟩
            rw [take_of_get _ _ _ HX.out, satMap_snoc, encT_append, hm.out]
            simpa [encT, Hid] using O1
          case measure => simp [intOf]; omega
      · obtain rfl : j = n := by omega
        obtain ⟨A1, c1, rfl⟩ := own_slice hown.out
        have b2 := hB1.out.cell 0
        have b3 := hB1.out.cell 1
        have r0 := hB0.out.cell 0
        have r1 := hB0.out.cell 1
        have q0 := hB0.out.frozen 0
        have q1 := hB0.out.frozen 1
        have hz := hB0.out.lt
        go_wp2
        refine bodyPost_ret (v := .agg #[.slice A1 j c1, .int .i64 bd]) (by simp [results, Try.results36, go_sem, r0, r1]) rfl ?_
        have K : Kept (w.heap.size + 1) (w.heap.size + 2) wr _ := ((Kept.refl _ _ wr).setIn (p := ⟨w.heap.size + 1, 0, none⟩) (by simp) (.slice A1 j c1)).setIn (p := ⟨w.heap.size + 1, 1, none⟩) (by simp) (.int .i64 bd)
        have G := own_got2 (w := w) hown.out K (by omega) (by omega)
        rw [List.take_of_length_le (by rw [HL.out]; omega)] at G
        refine ⟨A1, j, c1, rfl, by unfold saT; rw [if_pos h0, satMap_len, HL.out], ?_, (hE.setNew (by simp) _).setNew (by simp) _⟩
        unfold saT
        rw [if_pos h0]
        exact G
  · obtain rfl : bd = 0 := by omega
    clear h
    by_cases hn0 : 0 < n
    all_goals
      go_enter Try.func36, Try.ntmps36
      go_wp2_with fail
      go_loopw [4] (fun i wr => i = .int .i64 0 ∧ wr = (((w.alloc (.cells #[.slice A n cap, .int .i64 0] 25)).alloc (.cells #[.slice none 0 0, .int .i64 0] 25)).alloc (.cells #[.slice none 0 0, .int .i64 0] 25))) (fun i _ => 0)
      case atStart => exact ⟨rfl, rfl⟩
      case round =>
        obtain ⟨rfl, rfl⟩ := hrel
        go_wp2
        refine bodyPost_ret (v := .agg #[.slice none 0 0, .int .i64 0]) (by simp [results, Try.results36, go_sem]) rfl ?_
        have hs : saT ts 0 = [] := by unfold saT; rw [if_neg (by omega)]
        rw [hs]
        exact ⟨none, 0, 0, rfl, rfl, Got.nil' _ _ _ _, (((Ext.refl w).alloc _).alloc _).alloc _⟩
set_option maxRecDepth 100000 in
set_option maxHeartbeats 2000000 in
theorem specSat_any (A : Option Addr) (n cap : Nat) (ts : List Tm) (bd : Int) (w : World) (hn : n ≤ maxLen) (h : Seg w 2 A n (encT ts)) :
    Calls Try.prog 16 #[.agg #[.slice A n cap, .int .i64 bd]] w fun e w' => RetCB (stT ts bd) (stD ts bd) (cvB ts bd) w e w' := by
  by_cases hv : cvB ts bd = true
  · have HV := Lib.hid hv
    clear hv
    go_enter Try.func16, Try.ntmps16
    go_wp2_with fail
    refine (specCV_any A n cap ts bd _ hn ((h.alloc _).alloc _)).mono ?_
    rintro e w1 ⟨rfl, hE1⟩
    have hv := HV.out
    rw [hv]
    obtain ⟨B0, B1⟩ := Blk.of2 hE1
    have b0 := B0.cell 0
    have b1 := B0.cell 1
    have h1 := ((h.alloc _).alloc _).ext hE1
    clear B0 hv
    have HB := Lib.hid B1
    clear B1
    go_wp2_with fail
    refine (l2Sat_any A n cap ts bd _ h1 HV.out).mono ?_
    rintro e w2 ⟨A2, n2, c2, rfl, hl, hG, hE2⟩
    have B2 := HB.out.ext hE2
    have r0 := B2.cell 0
    have r1 := B2.cell 1
    have q0 := B2.frozen 0
    have q1 := B2.frozen 1
    clear B2 b0 b1 h h1
    have HG := Lib.hid hG
    clear hG
    have hz := HB.out.lt
    go_wp2
    refine bodyPost_ret (v := .tuple #[.agg #[.slice A2 n2 c2, .int .i64 bd], .bool true]) (by simp [results, Try.results16, go_sem, r0, r1]) rfl ?_
    have K : Kept (w.heap.size + 1) (w.heap.size + 2) w2 _ := ((Kept.refl _ _ w2).setIn (p := ⟨w.heap.size + 1, 0, none⟩) (by simp) (.slice A2 n2 c2)).setIn (p := ⟨w.heap.size + 1, 1, none⟩) (by simp) (.int .i64 bd)
    have E1 : Ext w w1 := (((Ext.refl w).alloc _).alloc _).trans hE1
    refine ⟨A2, n2, c2, by unfold stD; rw [if_pos HV.out, HV.out], by unfold stT; rw [if_pos HV.out]; exact hl, ?_, ((E1.trans hE2).setNew (by simp) _).setNew (by simp) _⟩
    unfold stT
    rw [if_pos HV.out]
    exact (HG.out.kept K (by omega)).from_ E1
  · have hf : cvB ts bd = false := by simpa using hv
    have HV := Lib.hid hf
    clear hv
    go_enter Try.func16, Try.ntmps16
    go_wp2_with fail
    refine (specCV_any A n cap ts bd _ hn ((h.alloc _).alloc _)).mono ?_
    rintro e w1 ⟨rfl, hE1⟩
    rw [hf]
    clear hf h
    obtain ⟨B0, B1⟩ := Blk.of2 hE1
    have r0 := B1.cell 0
    have r1 := B1.cell 1
    have q0 := B1.frozen 0
    have q1 := B1.frozen 1
    clear B0 B1
    go_wp2
    refine bodyPost_ret (v := .tuple #[.agg #[.slice none 0 0, .int .i64 0], .bool false]) (by simp [results, Try.results16, go_sem, r0, r1]) rfl ?_
    have E1 : Ext w w1 := (((Ext.refl w).alloc _).alloc _).trans hE1
    exact (RetCB.zero ((E1.setNew (by simp) _).setNew (by simp) _)).of_eq (by unfold stT; rw [if_neg (by rw [HV.out]; simp)]) (by unfold stD; rw [if_neg (by rw [HV.out]; simp)]) HV.out.symm
end Go.Proofs.Ytbpkpcfhmglddaa
