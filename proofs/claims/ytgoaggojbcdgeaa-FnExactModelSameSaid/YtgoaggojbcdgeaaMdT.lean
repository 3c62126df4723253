/- The law's own copies of rules and models. -/
import Derived.Test.YtgoaggojbcdgeaaMd
namespace Go.Proofs.Ytgoaggojbcdgeaa
open Go.RowKit

/-- a copy of a rule -/
def RetR (x : Int) (v c : List Int) (z : Int) (rs : List (List Int)) (w : World) (e : Ending) (w' : World) : Prop :=
  ∃ A1 n1 p1 A2 n2 p2 A3 n3 p3, e = .returned (.agg #[.int .i64 x, .slice A1 n1 p1, .slice A2 n2 p2, .int .i64 z, .slice A3 n3 p3]) ∧ QR w.heap.size w' ((A1, n1, p1), (A2, n2, p2), (A3, n3, p3)) (x, v, c, z, rs) ∧ Ext w w'
theorem QI.got {w w' : World} {A : Option Addr} {n cap : Nat} {r : List Int} (hl : r.length = n) (hs : smI r) (hc : n ≤ cap) (h : Got w w' 1 A n (encI r)) {lo : Nat} (hlo : lo ≤ w.heap.size) : QI lo w' (A, n, cap) r :=
  ⟨by show n ≤ maxLen; unfold smI at hs; unfold maxLen; omega, h.seg, h.lies.wide hlo (Nat.le_refl _), hc⟩
set_option maxRecDepth 100000 in
set_option maxHeartbeats 2000000 in
theorem toRule_any (x : Int) (A1 : Option Addr) (n1 p1 : Nat) (v : List Int) (A2 : Option Addr) (n2 p2 : Nat) (c : List Int) (z : Int) (A3 : Option Addr) (n3 p3 : Nat) (rs : List (List Int)) (w : World)
    (hsm : smR (x, v, c, z, rs)) (h : QR 0 w ((A1, n1, p1), (A2, n2, p2), (A3, n3, p3)) (x, v, c, z, rs)) :
    Calls Try.prog 91 #[.agg #[.int .i64 x, .slice A1 n1 p1, .slice A2 n2 p2, .int .i64 z, .slice A3 n3 p3]] w (RetR x v c z rs w) := by
  have hv1 : v.length = n1 := h.1.2.1.lenI
  have hv2 : c.length = n2 := h.2.1.2.1.lenI
  have hn1 : n1 ≤ 1048576 := by rw [← hv1]; exact hsm.1
  have hn2 : n2 ≤ 1048576 := by rw [← hv2]; exact hsm.2.1
  have HQ := Lib.hid h
  have HSM := Lib.hid hsm
  clear h hsm hv1 hv2
  go_enter Try.func91, Try.ntmps91
  go_wp2_with fail
  refine (toIntSc_any A1 n1 p1 v _ hn1 (HQ.out.1.ext ((((Ext.refl w).alloc _).alloc _).alloc _)).2.1).mono ?_
  rintro e w1 ⟨B1, m1, q1, rfl, hl1, hcc1, hG1, hE1⟩
  obtain ⟨K0, K1, K2⟩ := Blk.of3 hE1
  have HE1 := Lib.hid (((((Ext.refl w).alloc _).alloc _).alloc _).trans hE1)
  have HG1 := Lib.hid (QI.got (cap := q1) hl1 HSM.out.1 hcc1 hG1 (lo := w.heap.size + 3) (by simp))
  have hs1 : w.heap.size + 3 ≤ w1.heap.size := by have := hE1.size; simpa using this
  have c2 := K0.cell 2
  have l0 := K0.lt
  have l2 := K2.lt
  have f1 := K2.frozen 1
  have d1 := K2.cell 1
  have HK0 := Lib.hid K0
  have HK1 := Lib.hid K1
  have HK2 := Lib.hid K2
  clear K0 K1 K2 hE1 hG1 hl1
  go_wp2_with fail
  have KS1 : Kept (w.heap.size + 1) (w.heap.size + 3) w1 (w1.setCell ⟨w.heap.size + 1 + 1, 1, none⟩ (.slice B1 m1 q1)) := (Kept.refl _ _ w1).setIn (p := ⟨w.heap.size + 1 + 1, 1, none⟩) (by simp) _
  have HE1' := Lib.hid (HE1.out.fresh KS1 (by omega))
  have HG1' := Lib.hid (HG1.out.kept KS1 (by omega))
  refine (toIntSc_any A2 n2 p2 c _ hn2 (HQ.out.2.1.ext HE1'.out).2.1).mono ?_
  rintro e w2 ⟨B2, m2, q2, rfl, hl2, hcc2, hG2, hE2⟩
  have K0 := (HK0.out.far (p := ⟨w.heap.size + 1 + 1, 1, none⟩) (by simp only; omega) (.slice B1 m1 q1)).ext hE2
  have K1 := (HK1.out.far (p := ⟨w.heap.size + 1 + 1, 1, none⟩) (by simp) (.slice B1 m1 q1)).ext hE2
  have K2 := (HK2.out.set_ 1 (.slice B1 m1 q1)).ext hE2
  have HE2 := Lib.hid (HE1'.out.trans hE2)
  have HF1 := Lib.hid (HG1'.out.ext hE2)
  have hs2 : w.heap.size + 3 ≤ w2.heap.size := by have := hE2.size; simp at this; omega
  have HG2 := Lib.hid (QI.got (cap := q2) hl2 HSM.out.2.1 hcc2 hG2 (lo := w.heap.size + 3) (by simpa using hs1))
  clear HK0 HK1 HK2 HE1 HG1 HE1' HG1' KS1 c2 l0 l2 f1 d1 hl2 hG2 hE2
  have c3 := K0.cell 3
  have c4 := K0.cell 4
  have l0 := K0.lt
  have l2 := K2.lt
  have f2 := K2.frozen 2
  have f3 := K2.frozen 3
  have d2 := K2.cell 2
  have d3 := K2.cell 3
  have HK1 := Lib.hid K1
  have HK2 := Lib.hid K2
  clear K0 K1 K2
  go_wp2_with fail
  have KS2 : Kept (w.heap.size + 1) (w.heap.size + 3) w2 ((w2.setCell ⟨w.heap.size + 1 + 1, 2, none⟩ (.slice B2 m2 q2)).setCell ⟨w.heap.size + 1 + 1, 3, none⟩ (.int .i64 z)) := ((Kept.refl _ _ w2).setIn (p := ⟨w.heap.size + 1 + 1, 2, none⟩) (by simp) _).setIn (p := ⟨w.heap.size + 1 + 1, 3, none⟩) (by simp) _
  have HE2' := Lib.hid (HE2.out.fresh KS2 (by omega))
  have HF1' := Lib.hid (HF1.out.kept KS2 (by omega))
  have HG2' := Lib.hid (HG2.out.kept KS2 (by omega))
  refine (toIntSS_any A3 n3 p3 rs _ HSM.out.2.2 (HQ.out.2.2.ext HE2'.out)).mono ?_
  rintro e w3 ⟨B3, m3, q3, rfl, hG3, hE3⟩
  have K1 := ((HK1.out.far (p := ⟨w.heap.size + 1 + 1, 2, none⟩) (by simp) (.slice B2 m2 q2)).far (p := ⟨w.heap.size + 1 + 1, 3, none⟩) (by simp) (.int .i64 z)).ext hE3
  have K2 := ((HK2.out.set_ 2 (.slice B2 m2 q2)).set_ 3 (.int .i64 z)).ext hE3
  have HE3 := Lib.hid (HE2'.out.trans hE3)
  have HV1 := Lib.hid (HF1'.out.ext hE3)
  have HV2 := Lib.hid (HG2'.out.ext hE3)
  have HV3 := Lib.hid (hG3.wide (lo' := w.heap.size + 3) (by simpa using hs2))
  clear HK1 HK2 HE2 HF1 HG2 HE2' HF1' HG2' KS2 c3 c4 l0 l2 f2 f3 d2 d3 hG3 hE3 hs1 hs2
  have r0 := K1.cell 0
  have r1 := K1.cell 1
  have r2 := K1.cell 2
  have r3 := K1.cell 3
  have r4 := K1.cell 4
  have z0 := K1.frozen 0
  have z1 := K1.frozen 1
  have z2 := K1.frozen 2
  have z3 := K1.frozen 3
  have z4 := K1.frozen 4
  have b0 := K2.cell 0
  have b1 := K2.cell 1
  have b2 := K2.cell 2
  have b3 := K2.cell 3
  have b4 := K2.cell 4
  have g4 := K2.frozen 4
  have l1 := K1.lt
  have l2 := K2.lt
  clear K1 K2
  go_wp2
  refine bodyPost_ret (v := .agg #[.int .i64 x, .slice B1 m1 q1, .slice B2 m2 q2, .int .i64 z, .slice B3 m3 q3]) (by simp [results, Try.results91, go_sem, r0, r1, r2, r3, r4]) rfl ?_
  have K : ∀ X, Kept (w.heap.size + 1) (w.heap.size + 3) w3 X → RetR x v c z rs w (.returned (.agg #[.int .i64 x, .slice B1 m1 q1, .slice B2 m2 q2, .int .i64 z, .slice B3 m3 q3])) X := fun X k =>
    ⟨B1, m1, q1, B2, m2, q2, B3, m3, q3, rfl, ⟨(HV1.out.kept k (by omega)).wide (by omega), (HV2.out.kept k (by omega)).wide (by omega), (HV3.out.kept k (by omega)).wide (by omega)⟩, HE3.out.fresh k (by omega)⟩
  refine K _ ?_
  repeat (refine Kept.setIn ?_ (by simp) _)
  exact Kept.refl _ _ _

theorem Try.infoRl : (Try.prog.info? 91).map (fun i => (i.zero, i.size, i.bytes)) = some (some (.agg #[.int .i64 0, .slice none 0 0, .slice none 0 0, .int .i64 0, .slice none 0 0]), 5, 88) := by kernel_rfl
/-- a copy of a list of rules -/
def RetRS (rs : List Rl) (w : World) (e : Ending) (w' : World) : Prop :=
  ∃ A n cap, e = .returned (.slice A n cap) ∧ QRS w.heap.size w' (A, n, cap) rs ∧ Ext w w'
set_option maxRecDepth 100000 in
set_option maxHeartbeats 2000000 in
theorem toRuleS_any (A : Option Addr) (n cap : Nat) (rs : List Rl) (w : World) (hsm : smRS rs) (h : QRS 0 w (A, n, cap) rs) :
    Calls Try.prog 67 #[.slice A n cap] w (RetRS rs w) := by
  have hl : rs.length = n := h.len
  have hn : n ≤ 1048576 := by rw [← hl]; exact hsm.1
  obtain ⟨i0, hi, hz0, hz1, hz2⟩ := info_parts Try.infoRl
  have hmk := run_make (P := Try.prog) w 53 91 i0 _ Try.underlying53 hi hz0 .i64 .i64 (n : Int) (n : Int) (by omega) (by omega) (by rw [hz2]; omega) (by omega)
  rw [hz1, toNat_cast] at hmk
  have hsz := size_madeCells (Value.agg #[.int .i64 0, .slice none 0 0, .slice none 0 0, .int .i64 0, .slice none 0 0]).cells (n * 5)
  generalize madeCells (Value.agg #[.int .i64 0, .slice none 0 0, .slice none 0 0, .int .i64 0, .slice none 0 0]).cells (n * 5) = made at hmk hsz
  have HR0 := Row.new w 91 made
  rw [hsz] at HR0
  clear hi hz0 hz1 hz2 hsz
  have HL := Lib.hid hl; clear hl
  have HSM := Lib.hid hsm; clear hsm
  go_enter Try.func67, Try.ntmps67
  go_wp2
  clear hmk
  go_loopw [4] (fun i wr => ∃ k : Nat, k ≤ n ∧ i = .int .i64 k ∧ Ext w wr ∧ Hid (∃ cur hs, Row wr w.heap.size 91 (n * 5) (encR hs (rs.take k)) cur ∧ hs.length = k ∧ InG QR (w.heap.size + 1) wr hs rs)) (fun i _ => n - (intOf i).toNat)
  case atStart => exact ⟨0, Nat.zero_le _, rfl, (Ext.refl _).alloc _, ⟨made, [], HR0, rfl, fun i x c h1 _ => by simp at h1⟩⟩
  case round =>
    obtain ⟨k, hk, rfl, hE, hR⟩ := hrel
    by_cases hlt : k < n
    · obtain ⟨b, off, x, A1, n1, p1, v, A2, n2, p2, c, bd, A3, n3, p3, rows, rfl, hx, c0, c1, c2, c3, c4, hq⟩ := (h.ext hE).at_ hlt
      have HX := Lib.hid hx
      have HQ := Lib.hid hq
      have hsr := HSM.out.2 k _ hx
      clear hx h HR0 hq
      obtain ⟨cur, hs, R, hlh, I⟩ := hR.out
      have HR' := Lib.hid R
      have HI' := Lib.hid I
      have hwr := R.blk.lt
      clear R I hR
      go_wp2_with fail
      refine (toRule_any x A1 n1 p1 v A2 n2 p2 c bd A3 n3 p3 rows _ hsr HQ.out).mono ?_
      rintro e w1 ⟨B1, m1, q1, B2, m2, q2, B3, m3, q3, rfl, hQ1, hE1⟩
      have R1 := HR'.out.ext hE1
      have hle : (encR hs (rs.take k)).length = k * 5 := by
        rw [encR_len hs _ (by rw [hlh, List.length_take, HL.out]; omega), List.length_take, HL.out]; omega
      have f0 := R1.frozen (k * 5)
      have f1 := R1.frozen (k * 5 + 1)
      have f2 := R1.frozen (k * 5 + 2)
      have f3 := R1.frozen (k * 5 + 3)
      have f4 := R1.frozen (k * 5 + 4)
      obtain ⟨o0, d0⟩ := R1.cell (i := k * 5) (by omega)
      obtain ⟨o1, d1⟩ := R1.cell (i := k * 5 + 1) (by omega)
      obtain ⟨o2, d2⟩ := R1.cell (i := k * 5 + 2) (by omega)
      obtain ⟨o3, d3⟩ := R1.cell (i := k * 5 + 3) (by omega)
      obtain ⟨o4, d4⟩ := R1.cell (i := k * 5 + 4) (by omega)
      have R2 := ((((R1.push (i := k * 5) (by omega) (by omega) (.int .i64 x)).push (i := k * 5 + 1) (by simp; omega) (by omega) (.slice B1 m1 q1)).push (i := k * 5 + 2) (by simp; omega) (by omega) (.slice B2 m2 q2)).push (i := k * 5 + 3) (by simp; omega) (by omega) (.int .i64 bd)).push (i := k * 5 + 4) (by simp; omega) (by omega) (.slice B3 m3 q3)
      have K2 : Kept w.heap.size (w.heap.size + 1) w1 _ := (((((Kept.refl _ _ w1).setIn (p := ⟨w.heap.size, k * 5, none⟩) (by simp) (.int .i64 x)).setIn (p := ⟨w.heap.size, k * 5 + 1, none⟩) (by simp) (.slice B1 m1 q1)).setIn (p := ⟨w.heap.size, k * 5 + 2, none⟩) (by simp) (.slice B2 m2 q2)).setIn (p := ⟨w.heap.size, k * 5 + 3, none⟩) (by simp) (.int .i64 bd)).setIn (p := ⟨w.heap.size, k * 5 + 4, none⟩) (by simp) (.slice B3 m3 q3)
      have I1 := (HI'.out.imp fun a b q => q.ext hE1).snoc hlh (a := ((B1, m1, q1), (B2, m2, q2), (B3, m3, q3))) HX.out (hQ1.wide (by omega))
      have I2 := I1.imp fun a b q => q.kept K2 (Nat.le_refl _)
      have HR2 := Lib.hid R2
      have HI2 := Lib.hid I2
      have HKE := Lib.hid ((hE.trans hE1).fresh K2 (Nat.le_refl _))
      have hlen : Hid (hs.length = (rs.take k).length) := by rw [Hid, hlh, List.length_take, HL.out]; omega
      have HLH := Lib.hid hlh
      clear R2 R1 HR' hle I1 I2 K2 hQ1 HQ HI' hlh hsr
      go_wp2
      go_roundw
      case rel =>
        refine ⟨k + 1, by omega, by go_num, HKE.out, ?_⟩
        have q := HR2.out
        rw [← encR_snoc hs (rs.take k) ((B1, m1, q1), (B2, m2, q2), (B3, m3, q3)) (x, v, c, bd, rows) hlen.out, ← take_of_get _ _ _ HX.out] at q
        exact ⟨_, _, q, by simp [HLH.out], HI2.out⟩
      case measure => simp [intOf]; omega
    · obtain rfl : k = n := by omega
      have HS := Lib.hid hR.out
      clear hR h HR0
      go_wp2
      go_ret
      obtain ⟨cur, hs, R, hlh, I⟩ := HS.out
      rw [List.take_of_length_le (by rw [HL.out]; omega)] at R
      have hle : (encR hs rs).length = k * 5 := by rw [encR_len hs rs (by rw [hlh, HL.out]), HL.out]
      have G := R.got (w0 := w) (sz := 5) (n := k) hle (Nat.le_refl _)
      exact ⟨_, _, _, rfl, ⟨by show k ≤ maxLen; unfold maxLen; omega, hs, by rw [hlh, HL.out], G.seg, G.lies, I.imp fun a b q => q.wide (by omega)⟩, hE⟩

/-- a copy of a model -/
def RetM (v : List Int) (rs : List Rl) (w : World) (e : Ending) (w' : World) : Prop :=
  ∃ A n cap B m q, e = .returned (.agg #[.slice A n cap, .slice B m q]) ∧ QI w.heap.size w' (A, n, cap) v ∧ QRS w.heap.size w' (B, m, q) rs ∧ Ext w w'
set_option maxRecDepth 100000 in
set_option maxHeartbeats 2000000 in
theorem toModel_any (A : Option Addr) (n cap : Nat) (v : List Int) (B : Option Addr) (m q : Nat) (rs : List Rl) (w : World) (hsm : smM (v, rs)) (h : QI 0 w (A, n, cap) v) (h' : QRS 0 w (B, m, q) rs) :
    Calls Try.prog 30 #[.agg #[.slice A n cap, .slice B m q]] w (RetM v rs w) := by
  have hv1 : v.length = n := h.2.1.lenI
  have hn1 : n ≤ 1048576 := by rw [← hv1]; exact hsm.1
  have HQ := Lib.hid h
  have HQ' := Lib.hid h'
  have HSM := Lib.hid hsm
  clear h h' hsm hv1
  go_enter Try.func30, Try.ntmps30
  go_wp2_with fail
  refine (toIntSc_any A n cap v _ hn1 (HQ.out.ext ((((Ext.refl w).alloc _).alloc _).alloc _)).2.1).mono ?_
  rintro e w1 ⟨B1, m1, q1, rfl, hl1, hcc1, hG1, hE1⟩
  obtain ⟨K0, K1, K2⟩ := Blk.of3 hE1
  have HE1 := Lib.hid (((((Ext.refl w).alloc _).alloc _).alloc _).trans hE1)
  have HG1 := Lib.hid (QI.got (cap := q1) hl1 HSM.out.1 hcc1 hG1 (lo := w.heap.size + 3) (by simp))
  have hs1 : w.heap.size + 3 ≤ w1.heap.size := by have := hE1.size; simpa using this
  have c1 := K0.cell 1
  have l0 := K0.lt
  have l2 := K2.lt
  have f0 := K2.frozen 0
  have d0 := K2.cell 0
  have HK1 := Lib.hid K1
  have HK2 := Lib.hid K2
  clear K0 K1 K2 hE1 hG1 hl1
  go_wp2_with fail
  have KS1 : Kept (w.heap.size + 1) (w.heap.size + 3) w1 (w1.setCell ⟨w.heap.size + 1 + 1, 0, none⟩ (.slice B1 m1 q1)) := (Kept.refl _ _ w1).setIn (p := ⟨w.heap.size + 1 + 1, 0, none⟩) (by simp) _
  have HE1' := Lib.hid (HE1.out.fresh KS1 (by omega))
  have HG1' := Lib.hid (HG1.out.kept KS1 (by omega))
  refine (toRuleS_any B m q rs _ HSM.out.2 (HQ'.out.ext HE1'.out)).mono ?_
  rintro e w2 ⟨B2, m2, q2, rfl, hG2, hE2⟩
  have K1 := (HK1.out.far (p := ⟨w.heap.size + 1 + 1, 0, none⟩) (by simp) (.slice B1 m1 q1)).ext hE2
  have K2 := (HK2.out.set_ 0 (.slice B1 m1 q1)).ext hE2
  have HE2 := Lib.hid (HE1'.out.trans hE2)
  have HV1 := Lib.hid (HG1'.out.ext hE2)
  have HV2 := Lib.hid (hG2.wide (lo' := w.heap.size + 3) (by simpa using hs1))
  clear HK1 HK2 HE1 HG1 HE1' HG1' KS1 c1 l0 l2 f0 d0 hG2 hE2 hs1
  have r0 := K1.cell 0
  have r1 := K1.cell 1
  have z0 := K1.frozen 0
  have z1 := K1.frozen 1
  have b0 := K2.cell 0
  have b1 := K2.cell 1
  have g1 := K2.frozen 1
  have l1 := K1.lt
  have l2 := K2.lt
  clear K1 K2
  go_wp2
  refine bodyPost_ret (v := .agg #[.slice B1 m1 q1, .slice B2 m2 q2]) (by simp [results, Try.results30, go_sem, r0, r1]) rfl ?_
  have K : ∀ X, Kept (w.heap.size + 1) (w.heap.size + 3) w2 X → RetM v rs w (.returned (.agg #[.slice B1 m1 q1, .slice B2 m2 q2])) X := fun X k =>
    ⟨B1, m1, q1, B2, m2, q2, rfl, (HV1.out.kept k (by omega)).wide (by omega), (HV2.out.kept k (by omega)).wide (by omega), HE2.out.fresh k (by omega)⟩
  refine K _ ?_
  repeat (refine Kept.setIn ?_ (by simp) _)
  exact Kept.refl _ _ _
end Go.Proofs.Ytgoaggojbcdgeaa
