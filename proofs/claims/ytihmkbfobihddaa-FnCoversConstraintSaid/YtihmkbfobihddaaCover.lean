/- CoversConstraint, the program's and the reference's: l2Coef, coef, l2Covers. -/
import Derived.Test.YtihmkbfobihddaaTot
import Derived.IntWalk
namespace Go.Proofs.Ytihmkbfobihddaa
open Go.RowKit

/-- the coefficient of a literal, 0 for none -/
def coefT (l : Int) : List Tm → Int
  | [] => 0
  | t :: ts => if t.2 = l then t.1 else coefT l ts
def lossT (us : List Tm) (ts : List Tm) : Int := (ts.map fun t => if 0 < t.1 - coefT t.2 us then t.1 - coefT t.2 us else 0).sum
def coversB (ts : List Tm) (bd : Int) (us : List Tm) (bd' : Int) : Bool := cvB ts bd && (cvB us bd' && decide (bd' ≤ bd - lossT us ts))

theorem lossT_snoc (us ts : List Tm) (t : Tm) : lossT us (ts ++ [t]) = lossT us ts + (if 0 < t.1 - coefT t.2 us then t.1 - coefT t.2 us else 0) := by simp [lossT]
theorem coefT_bounds {us : List Tm} {bd : Int} (h : cvB us bd = true) (l : Int) : 0 ≤ coefT l us ∧ coefT l us ≤ 1000 := by
  have hm : ∀ t ∈ us, 1 ≤ t.1 ∧ t.1 ≤ 1000 := fun t ht => by
    unfold cvB at h
    rw [Bool.and_eq_true] at h
    exact (goodB_mem us 0 h.1 t ht).2
  clear h
  induction us with
  | nil => simp [coefT]
  | cons t us ih =>
    unfold coefT
    split
    · have := hm t (by simp); omega
    · exact ih fun t ht => hm t (by simp [ht])

theorem coef_drop (l : Int) (ts : List Tm) (k : Nat) (c z : Int) (hx : ts[k]? = some (c, z)) (h : coefT l ts = coefT l (ts.drop k)) :
    (z = l → coefT l ts = c) ∧ (z ≠ l → coefT l ts = coefT l (ts.drop (k + 1))) := by
  rw [drop_of_get ts k _ hx] at h
  simp only [coefT] at h
  exact ⟨fun e => by rw [h, if_pos e], fun e => by rw [h, if_neg e]⟩

set_option maxHeartbeats 1000000 in
theorem l2Coef_any (A : Option Addr) (n cap : Nat) (ts : List Tm) (bd l : Int) (w : World) (hn : n ≤ maxLen) (h : Seg w 2 A n (encT ts)) :
    Calls Try.prog 99 #[.agg #[.slice A n cap, .int .i64 bd], .int .i64 l] w fun e w' => e = .returned (.int .i64 (coefT l ts)) ∧ Ext w w' := by
  have HL := Lib.hid h.lenT
  unfold maxLen at hn
  go_enter Try.func99, Try.ntmps99
  go_wp2_with fail
  go_loopw [5] (fun i wr => ∃ (k : Nat), k ≤ n ∧ i = .int .i64 k ∧ Ext (w.alloc (.cells #[.slice A n cap, .int .i64 bd] 33)) wr ∧ Hid (coefT l ts = coefT l (ts.drop k))) (fun i _ => n - (intOf i).toNat)
  case atStart => exact ⟨0, Nat.zero_le _, rfl, Ext.refl _, rfl⟩
  case round =>
    obtain ⟨k, hk, rfl, hE, hD⟩ := hrel
    have B0 := Blk.of1 hE
    have b0 := B0.cell 0
    clear B0
    by_cases hlt : k < n
    · obtain ⟨b, off, c, z, rfl, hx, c1, c2⟩ := ((h.alloc _).ext hE).term hlt
      obtain ⟨D1, D2⟩ := coef_drop l ts k c z hx hD.out
      have HD1 := Lib.hid D1
      have HD2 := Lib.hid D2
      clear hx hD h D1 D2
      by_cases hz : z = l
      · have D := Lib.hid (HD1.out hz)
        have hzb : (z == l) = true := by simpa using hz
        clear HD1 HD2 hz
        go_wp2
        go_ret
        exact ⟨ret_i D.out.symm, ((Ext.refl _).alloc _).trans hE⟩
      · have D := Lib.hid (HD2.out hz)
        have hzb : (z == l) = false := by simpa using hz
        clear HD1 HD2 hz
        go_wp2
        go_roundw
        case rel => exact ⟨k + 1, by omega, by go_num, hE, D⟩
        case measure => simp [intOf]; omega
    · obtain rfl : k = n := by omega
      clear h
      go_wp2
      go_ret
      exact ⟨ret_i (by rw [hD.out, List.drop_of_length_le (by rw [HL.out]; omega)]; rfl), ((Ext.refl _).alloc _).trans hE⟩

set_option maxHeartbeats 1000000 in
theorem coef_any (A : Option Addr) (n cap : Nat) (ts : List Tm) (bd l : Int) (w : World) (hn : n ≤ maxLen) (h : Seg w 2 A n (encT ts)) :
    Calls Try.prog 81 #[.agg #[.slice A n cap, .int .i64 bd], .int .i64 l] w fun e w' => e = .returned (.int .i64 (coefT l ts)) ∧ Ext w w' := by
  have HL := Lib.hid h.lenT
  unfold maxLen at hn
  go_enter Try.func81, Try.ntmps81
  go_wp2_with fail
  go_loopw [10] (fun i wr => ∃ (k : Nat), k ≤ n ∧ i = .int .i64 k ∧ Ext (w.alloc (.cells #[.slice A n cap, .int .i64 bd] 33)) wr ∧ Hid (coefT l ts = coefT l (ts.drop k))) (fun i _ => n - (intOf i).toNat)
  case atStart => exact ⟨0, Nat.zero_le _, rfl, Ext.refl _, rfl⟩
  case round =>
    obtain ⟨k, hk, rfl, hE, hD⟩ := hrel
    by_cases hlt : k < n
    · obtain ⟨b, off, c, z, rfl, hx, c1, c2⟩ := ((h.alloc _).ext hE).term hlt
      obtain ⟨D1, D2⟩ := coef_drop l ts k c z hx hD.out
      have HD1 := Lib.hid D1
      have HD2 := Lib.hid D2
      clear hx hD h D1 D2
      by_cases hz : z = l
      · have D := Lib.hid (HD1.out hz)
        have hzb : (z == l) = true := by simpa using hz
        clear HD1 HD2 hz
        go_wp2
        go_ret
        exact ⟨ret_i D.out.symm, (((Ext.refl _).alloc _).trans hE).alloc _⟩
      · have D := Lib.hid (HD2.out hz)
        have hzb : (z == l) = false := by simpa using hz
        clear HD1 HD2 hz
        go_wp2
        go_roundw
        case rel => exact ⟨k + 1, by omega, by go_num, hE.alloc _, D⟩
        case measure => simp [intOf]; omega
    · obtain rfl : k = n := by omega
      clear h
      go_wp2
      go_ret
      exact ⟨ret_i (by rw [hD.out, List.drop_of_length_le (by rw [HL.out]; omega)]; rfl), ((Ext.refl _).alloc _).trans hE⟩

set_option maxRecDepth 100000 in
set_option maxHeartbeats 4000000 in
theorem l2Covers_any (A : Option Addr) (n cap : Nat) (ts : List Tm) (bd : Int) (A' : Option Addr) (n' cap' : Nat) (us : List Tm) (bd' : Int) (w : World) (h : Seg w 2 A n (encT ts)) (hn' : n' ≤ maxLen) (h' : Seg w 2 A' n' (encT us)) (hv : cvB ts bd = true) (hv' : cvB us bd' = true) :
    Calls Try.prog 87 #[.agg #[.slice A n cap, .int .i64 bd], .agg #[.slice A' n' cap', .int .i64 bd']] w fun e w' => e = .returned (.bool (decide (bd' ≤ bd - lossT us ts))) ∧ Ext w w' := by
  have HL := Lib.hid h.lenT
  have hn : n ≤ 12 := by have := cvB_len hv; rw [HL.out] at this; exact this
  have HV := Lib.hid hv
  have HV' := Lib.hid hv'
  have hbd := cvB_bd hv
  have hbd' := cvB_bd hv'
  clear hv hv'
  go_enter Try.func87, Try.ntmps87
  go_wp2_with fail
  go_loopw [5, 6] (fun s i wr => ∃ (k : Nat) (z : Int), k ≤ n ∧ i = .int .i64 k ∧ s = .int .i64 z ∧ 0 ≤ z ∧ z ≤ 1000 * k ∧ Ext ((w.alloc (.cells #[.slice A n cap, .int .i64 bd] 33)).alloc (.cells #[.slice A' n' cap', .int .i64 bd'] 33)) wr ∧ Hid (z = lossT us (ts.take k))) (fun _ i _ => n - (intOf i).toNat)
  case atStart => exact ⟨0, 0, Nat.zero_le _, rfl, rfl, by omega, by omega, Ext.refl _, rfl⟩
  case round =>
    obtain ⟨k, z, hk, rfl, rfl, hz0, hz1, hE, hZ⟩ := hrel
    obtain ⟨B0, B1⟩ := Blk.of2 hE
    by_cases hlt : k < n
    · obtain ⟨b, off, c, l, rfl, hx, c1, c2⟩ := (((h.alloc _).alloc _).ext hE).term hlt
      obtain ⟨hl, hc1, hc2⟩ := cvB_get HV.out hx
      have HX := Lib.hid hx
      have hcf := coefT_bounds HV'.out l
      have hcf0 := hcf.1
      have hcf1 := hcf.2
      have s' := Lib.hid (((h'.alloc (.cells #[.slice (some ⟨b, off, none⟩) n cap, .int .i64 bd] 33)).alloc (.cells #[.slice A' n' cap', .int .i64 bd'] 33)).ext hE)
      have b0 := B0.cell 0
      have d0 : ∀ p : ExtBy wr, p.to.cell? ⟨w.heap.size, 0, none⟩ = some (.slice (some ⟨b, off, none⟩) n cap) := fun p => p.cell (B0.cell 0)
      have d1 : ∀ p : ExtBy wr, p.to.cell? ⟨w.heap.size + 1, 0, none⟩ = some (.slice A' n' cap') := fun p => p.cell (B1.cell 0)
      have d2 : ∀ p : ExtBy wr, p.to.cell? ⟨w.heap.size + 1, 1, none⟩ = some (.int .i64 bd') := fun p => p.cell (B1.cell 1)
      have d3 : ∀ p : ExtBy wr, p.to.cell? ⟨b, off + k * 2, none⟩ = some (.int .i64 c) := fun p => p.cell c1
      have d4 : ∀ p : ExtBy wr, p.to.cell? ⟨b, off + k * 2 + 1, none⟩ = some (.int .i64 l) := fun p => p.cell c2
      have hw : IntKind.i64.wrap (c - coefT l us) = c - coefT l us := IntWalk.i64_in _ (by omega)
      clear hx h h' hl hcf B0 B1 c1 c2
      by_cases hpos : 0 < c - coefT l us
      all_goals
        go_wp2_with fail
        refine wp_region_ext_lit (by kernel_rfl) (by kernel_rfl) ?_
        repeat (go_big_quiet_step (first
          | (go_at_call 99; exact ext_call (l2Coef_any A' n' cap' us bd' l _ hn' (s'.out.ext (ExtBy.ext _))))))
        refine wpQuiet_nil ?_
        intro _ hw'
        obtain ⟨⟨wq, hq⟩, hw''⟩ := hw'
        subst hw''
        clear d0 d1 d2 d3 d4 hw b0
        go_wp2
      · go_roundw
        case rel =>
          refine ⟨k + 1, z + (c - coefT l us), by omega, by go_num, by first | rfl | go_num, by omega, by omega, hE.trans hq, ?_⟩
          rw [take_of_get _ _ _ HX.out, lossT_snoc, ← hZ.out]; simp only [Hid]; rw [if_pos hpos]
        case measure => simp [intOf]; omega
      · go_roundw
        case rel =>
          refine ⟨k + 1, z, by omega, by go_num, by first | rfl | go_num, by omega, by omega, hE.trans hq, ?_⟩
          rw [take_of_get _ _ _ HX.out, lossT_snoc, ← hZ.out]; simp only [Hid]; rw [if_neg (by omega)]; omega
        case measure => simp [intOf]; omega
    · obtain rfl : k = n := by omega
      have b0 := B0.cell 0
      have b1 := B0.cell 1
      have b2 := B1.cell 1
      clear h h' B0 B1
      go_wp2
      go_ret
      exact ⟨ret_b (by rw [hZ.out, List.take_of_length_le (by rw [HL.out]; omega)]), (((Ext.refl _).alloc _).alloc _).trans hE⟩

set_option maxHeartbeats 2000000 in
theorem specCov_any (A : Option Addr) (n cap : Nat) (ts : List Tm) (bd : Int) (A' : Option Addr) (n' cap' : Nat) (us : List Tm) (bd' : Int) (w : World) (hn : n ≤ maxLen) (h : Seg w 2 A n (encT ts)) (hn' : n' ≤ maxLen) (h' : Seg w 2 A' n' (encT us)) :
    Calls Try.prog 53 #[.agg #[.slice A n cap, .int .i64 bd], .agg #[.slice A' n' cap', .int .i64 bd']] w fun e w' => e = .returned (.bool (coversB ts bd us bd')) ∧ Ext w w' := by
  by_cases hv : cvB ts bd = true
  · have HV := Lib.hid hv
    go_enter Try.func53, Try.ntmps53
    go_wp2_with fail
    refine (specCV_any A n cap ts bd _ hn ((h.alloc _).alloc _)).mono ?_
    rintro e w1 ⟨rfl, hE1⟩
    obtain ⟨K0, K1⟩ := Blk.of2 hE1
    have c0 := K0.cell 0
    have c1 := K0.cell 1
    have d0 := K1.cell 0
    have d1 := K1.cell 1
    have s1 := ((h.alloc _).alloc _).ext hE1
    have s1' := ((h'.alloc _).alloc _).ext hE1
    by_cases hv' : cvB us bd' = true
    · have HV' := Lib.hid hv'
      go_wp2_with fail
      refine (specCV_any A' n' cap' us bd' _ hn' s1').mono ?_
      rintro e w2 ⟨rfl, hE2⟩
      clear c0 c1 d0 d1
      have c0 := (K0.ext hE2).cell 0
      have c1 := (K0.ext hE2).cell 1
      have d0 := (K1.ext hE2).cell 0
      have d1 := (K1.ext hE2).cell 1
      go_wp2_with fail
      refine (l2Covers_any A n cap ts bd A' n' cap' us bd' _ (s1.ext hE2) hn' (s1'.ext hE2) HV.out HV'.out).mono ?_
      rintro e w3 ⟨rfl, hE3⟩
      clear c0 c1 d0 d1 K0 K1 h h' s1 s1'
      go_wp2
      go_ret
      exact ⟨ret_b (by unfold coversB; rw [HV.out, HV'.out]; rfl), ((((Ext.refl w).alloc _).alloc _).trans hE1).trans (hE2.trans hE3)⟩
    · have hf : cvB us bd' = false := by simpa using hv'
      have hlen : Hid (coversB ts bd us bd' = false) := by unfold coversB Hid; rw [hf, Bool.false_and, Bool.and_false]
      clear hv'
      go_wp2_with fail
      refine (specCV_any A' n' cap' us bd' _ hn' s1').mono ?_
      rintro e w2 ⟨rfl, hE2⟩
      clear c0 c1 d0 d1 K0 K1 h h' s1 s1'
      go_wp2
      go_ret
      exact ⟨ret_b hlen.out.symm, ((((Ext.refl w).alloc _).alloc _).trans hE1).trans hE2⟩
  · have hf : cvB ts bd = false := by simpa using hv
    have hlen : Hid (coversB ts bd us bd' = false) := by unfold coversB Hid; rw [hf, Bool.false_and]
    clear hv h'
    go_enter Try.func53, Try.ntmps53
    go_wp2_with fail
    refine (specCV_any A n cap ts bd _ hn ((h.alloc _).alloc _)).mono ?_
    rintro e w1 ⟨rfl, hE1⟩
    clear h
    go_wp2
    go_ret
    exact ⟨ret_b hlen.out.symm, (((Ext.refl w).alloc _).alloc _).trans hE1⟩

set_option maxRecDepth 100000 in
set_option maxHeartbeats 4000000 in
theorem implCov_any (A : Option Addr) (n cap : Nat) (ts : List Tm) (bd : Int) (A' : Option Addr) (n' cap' : Nat) (us : List Tm) (bd' : Int) (w : World) (hn : n ≤ maxLen) (h : Seg w 2 A n (encT ts)) (hn' : n' ≤ maxLen) (h' : Seg w 2 A' n' (encT us)) :
    Calls Try.prog 44 #[.agg #[.slice A n cap, .int .i64 bd], .agg #[.slice A' n' cap', .int .i64 bd']] w fun e w' => e = .returned (.bool (coversB ts bd us bd')) ∧ Ext w w' := by
  have HL := Lib.hid h.lenT
  by_cases hv : cvB ts bd = true
  · have HV := Lib.hid hv
    have hn12 : n ≤ 12 := by have := cvB_len hv; rw [HL.out] at this; exact this
    have hbd := cvB_bd hv
    have Hbd := Lib.hid hbd
    clear hbd
    go_enter Try.func44, Try.ntmps44
    go_wp2_with fail
    refine (implCV_any A n cap ts bd _ hn ((h.alloc _).alloc _)).mono ?_
    rintro e w1 ⟨rfl, hE1⟩
    obtain ⟨K0, K1⟩ := Blk.of2 hE1
    have d0 := K1.cell 0
    have d1 := K1.cell 1
    have s1 := ((h.alloc _).alloc _).ext hE1
    have s1' := ((h'.alloc _).alloc _).ext hE1
    by_cases hv' : cvB us bd' = true
    · have HV' := Lib.hid hv'
      have Hbd' := Lib.hid (cvB_bd hv')
      go_wp2_with fail
      refine (implCV_any A' n' cap' us bd' _ hn' s1').mono ?_
      rintro e w2 ⟨rfl, hE2⟩
      clear d0 d1
      have c0 := (K0.ext hE2).cell 0
      have J0 := Lib.hid (K0.ext hE2)
      have J1 := Lib.hid (K1.ext hE2)
      have S := Lib.hid (s1.ext hE2)
      have S' := Lib.hid (s1'.ext hE2)
      have hE02 := (((Ext.refl w).alloc _).alloc _).trans (hE1.trans hE2)
      clear K0 K1 h h' s1 s1' hE1 hE2
      go_wp2_with fail
      clear c0 hv hv'
      go_loopw [5, 19] (fun s i wr => ∃ (k : Nat) (z : Int), k ≤ n ∧ i = .int .i64 k ∧ s = .int .i64 z ∧ 0 ≤ z ∧ z ≤ 1000 * k ∧ Ext w2 wr ∧ Hid (z = lossT us (ts.take k))) (fun _ i _ => n - (intOf i).toNat)
      case atStart => exact ⟨0, 0, Nat.zero_le _, rfl, rfl, by omega, by omega, Ext.refl _, rfl⟩
      case round =>
        obtain ⟨k, z, hk, rfl, rfl, hz0, hz1, hE, hZ⟩ := hrel
        by_cases hlt : k < n
        · obtain ⟨b, off, c, l, rfl, hx, c1, c2⟩ := (S.out.ext hE).term hlt
          obtain ⟨hl, hc1, hc2⟩ := cvB_get HV.out hx
          have HX := Lib.hid hx
          have hcf := coefT_bounds HV'.out l
          have hcf0 := hcf.1
          have hcf1 := hcf.2
          have s' := Lib.hid (S'.out.ext hE)
          have hxt := Blk.new wr 71 #[.int .i64 c, .int .i64 l]
          have d1 : ∀ p : ExtBy (wr.alloc (.cells #[.int .i64 c, .int .i64 l] 71)), p.to.cell? ⟨w.heap.size + 1, 0, none⟩ = some (.slice A' n' cap') := fun p => p.cell (((J1.out.ext hE).alloc _).cell 0)
          have d2 : ∀ p : ExtBy (wr.alloc (.cells #[.int .i64 c, .int .i64 l] 71)), p.to.cell? ⟨w.heap.size + 1, 1, none⟩ = some (.int .i64 bd') := fun p => p.cell (((J1.out.ext hE).alloc _).cell 1)
          have d3 : ∀ p : ExtBy (wr.alloc (.cells #[.int .i64 c, .int .i64 l] 71)), p.to.cell? ⟨wr.heap.size, 0, none⟩ = some (.int .i64 c) := fun p => p.cell (hxt.cell 0)
          have d4 : ∀ p : ExtBy (wr.alloc (.cells #[.int .i64 c, .int .i64 l] 71)), p.to.cell? ⟨wr.heap.size, 1, none⟩ = some (.int .i64 l) := fun p => p.cell (hxt.cell 1)
          have hw : IntKind.i64.wrap (c - coefT l us) = c - coefT l us := IntWalk.i64_in _ (by omega)
          have hww : IntKind.i64.wrap (z + (c - coefT l us)) = z + (c - coefT l us) := IntWalk.i64_in _ (by omega)
          have hw0 : IntKind.i64.wrap z = z := IntWalk.i64_in _ (by omega)
          clear hx hl hcf hxt
          by_cases hpos : 0 < c - coefT l us
          all_goals
            go_wp2_with fail
            refine wp_region_ext_lit (by kernel_rfl) (by kernel_rfl) ?_
            repeat (go_big_quiet_step (first
              | (go_at_call 81; exact ext_call (coef_any A' n' cap' us bd' l _ hn' ((s'.out.alloc _).ext (ExtBy.ext _))))))
            refine wpQuiet_nil ?_
            intro _ hw'
            obtain ⟨⟨wq, hq⟩, hw''⟩ := hw'
            subst hw''
            clear d1 d2 d3 d4 hw hww hw0 c1 c2
            go_wp2
          · go_roundw
            case rel =>
              refine ⟨k + 1, z + (c - coefT l us), by omega, by go_num, by first | rfl | go_num, by omega, by omega, hE.trans (((Ext.refl _).alloc _).trans hq), ?_⟩
              rw [take_of_get _ _ _ HX.out, lossT_snoc, ← hZ.out]; simp only [Hid]; rw [if_pos hpos]
            case measure => simp [intOf]; omega
          · go_roundw
            case rel =>
              refine ⟨k + 1, z, by omega, by go_num, by first | rfl | go_num, by omega, by omega, hE.trans (((Ext.refl _).alloc _).trans hq), ?_⟩
              rw [take_of_get _ _ _ HX.out, lossT_snoc, ← hZ.out]; simp only [Hid]; rw [if_neg (by omega)]; omega
            case measure => simp [intOf]; omega
        · obtain rfl : k = n := by omega
          have b1 := (J0.out.ext hE).cell 1
          have b2 := (J1.out.ext hE).cell 1
          have h1 := Hbd.out.1
          have h2 := Hbd.out.2
          have h3 := Hbd'.out.1
          have h4 := Hbd'.out.2
          go_wp2
          go_ret
          exact ⟨ret_b (by unfold coversB; rw [HV.out, HV'.out, hZ.out, List.take_of_length_le (by rw [HL.out]; omega)]; rfl), hE02.trans hE⟩
    · have hf : cvB us bd' = false := by simpa using hv'
      have hlen : Hid (coversB ts bd us bd' = false) := by unfold coversB Hid; rw [hf, Bool.false_and, Bool.and_false]
      clear hv'
      go_wp2_with fail
      refine (implCV_any A' n' cap' us bd' _ hn' s1').mono ?_
      rintro e w2 ⟨rfl, hE2⟩
      clear d0 d1 K0 K1 h h' s1 s1'
      go_wp2
      go_ret
      exact ⟨ret_b hlen.out.symm, ((((Ext.refl w).alloc _).alloc _).trans hE1).trans hE2⟩
  · have hf : cvB ts bd = false := by simpa using hv
    have hlen : Hid (coversB ts bd us bd' = false) := by unfold coversB Hid; rw [hf, Bool.false_and]
    clear hv h'
    go_enter Try.func44, Try.ntmps44
    go_wp2_with fail
    refine (implCV_any A n cap ts bd _ hn ((h.alloc _).alloc _)).mono ?_
    rintro e w1 ⟨rfl, hE1⟩
    clear h
    go_wp2
    go_ret
    exact ⟨ret_b hlen.out.symm, (((Ext.refl w).alloc _).alloc _).trans hE1⟩
end Go.Proofs.Ytihmkbfobihddaa
