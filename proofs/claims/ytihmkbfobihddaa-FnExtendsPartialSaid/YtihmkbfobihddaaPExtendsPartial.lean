/- laws.FnExtendsPartial: for all bytes, the program's ExtendsPartial and PartialValid answer as the reference's, and extension is agreement. No condition. -/
import Derived.Test.YtihmkbfobihddaaRdP
import Derived.Test.YtihmkbfobihddaaPlP
import Derived.Test.YtihmkbfobihddaaApp
import Derived.Test.YtihmkbfobihddaaOpenY
namespace Go.Proofs.Ytihmkbfobihddaa.extendsPartial
open Go.ChangeShapes Go.WideShapes Go.ChangeAt Go.RowKit
set_option linter.unusedVariables false

set_option maxRecDepth 100000 in
set_option maxHeartbeats 4000000 in
theorem walk (A0 : Option Addr) (n0 cap0 : Nat) (zs0 : List Int) (A1 : Option Addr) (n1 cap1 : Nat) (zs1 : List Int) (w : World) (hn0 : n0 ≤ maxLen) (hc0 : n0 ≤ cap0) (hs0 : Seg w 1 A0 n0 (encY zs0)) (hb0 : bytesB zs0) (hn1 : n1 ≤ maxLen) (hc1 : n1 ≤ cap1) (hs1 : Seg w 1 A1 n1 (encY zs1)) (hb1 : bytesB zs1) :
    Calls Try.prog 3 #[.slice A0 n0 cap0, .slice A1 n1 cap1] w fun e w' => e = .returned (.bool true) ∧ Ext w w' := by
  by_cases hbig : 1048576 < n0
  · clear hs0 hs1
    go_enter Try.func3, Try.ntmps3
    go_wp2
    go_ret
    exact ⟨rfl, Ext.refl _⟩
  by_cases hbig1 : 1048576 < n1
  · clear hs0 hs1
    have hb2 : decide ((1048576 : Int) < (n0 : Int)) = false := decide_eq_false (by omega)
    go_enter Try.func3, Try.ntmps3
    go_wp2
    go_ret
    exact ⟨rfl, Ext.refl _⟩
  have hb2 : decide ((1048576 : Int) < (n0 : Int)) = false := decide_eq_false (by omega)
  have hb3 : decide ((1048576 : Int) < (n1 : Int)) = false := decide_eq_false (by omega)
  go_enter Try.func3, Try.ntmps3
  go_wp2_with fail
  refine (drawEP_any A0 n0 cap0 zs0 _ hn0 hc0 hs0 hb0).mono ?_
  rintro e w1 ⟨A1a, n1a, c1a, vs1a, A1b, n1b, c1b, vs1b, rfl, hl1a, hm1a, hl1b, hm1b, hg1a, hg1b, hE1⟩
  have hC1 : Ext w w1 := hE1
  have ze1 := hC1.size
  clear hE1
  have hn1a : n1a ≤ maxLen := by unfold maxLen; omega
  have HL1a := Lib.hid hl1a
  have hG1a := Lib.hid hg1a
  clear hl1a hg1a
  have hn1b : n1b ≤ maxLen := by unfold maxLen; omega
  have HL1b := Lib.hid hl1b
  have hG1b := Lib.hid hg1b
  clear hl1b hg1b
  by_cases he : epB vs1a vs1b = true
  · have HE := Lib.hid he
    obtain ⟨hp, hv12, _⟩ := epB_parts he
    have HP := Lib.hid hp
    obtain rfl : n1a = 12 := by rw [← HL1a.out]; exact pvB_len hp
    obtain rfl : n1b = 12 := by rw [← HL1b.out]; exact hv12
    clear he hp hv12
    go_wp2_with fail
    refine (calls_val (implEP_any A1a 12 c1a vs1a A1b 12 c1b vs1b _ hn1a hG1a.out.seg hn1b hG1b.out.seg) (congrArg Value.bool HE.out)).mono ?_
    rintro e w2 ⟨rfl, hE2⟩
    have hC2 : Ext w1 w2 := hE2
    have ze2 := hC2.size
    clear hE2
    go_wp2_with fail
    refine (calls_val (specEP_any A1a 12 c1a vs1a A1b 12 c1b vs1b _ hn1a (hG1a.out.seg.ext hC2) hn1b (hG1b.out.seg.ext hC2)) (congrArg Value.bool HE.out)).mono ?_
    rintro e w3 ⟨rfl, hE3⟩
    have hC3 : Ext w2 w3 := hE3
    have ze3 := hC3.size
    clear hE3
    go_wp2_with fail
    refine (calls_val (implPV_any A1a 12 c1a vs1a _ hn1a (hG1a.out.seg.ext (hC2.trans hC3))) (congrArg Value.bool HP.out)).mono ?_
    rintro e w4 ⟨rfl, hE4⟩
    have hC4 : Ext w3 w4 := hE4
    have ze4 := hC4.size
    clear hE4
    go_wp2_with fail
    refine (calls_val (specPV_any A1a 12 c1a vs1a _ hn1a (hG1a.out.seg.ext ((hC2.trans hC3).trans hC4))) (congrArg Value.bool HP.out)).mono ?_
    rintro e w5 ⟨rfl, hE5⟩
    have hC5 : Ext w4 w5 := hE5
    have ze5 := hC5.size
    clear hE5
    obtain ⟨i0, hi, hz0, hz1, hz2⟩ := info_parts Try.infoInR
    have HI := Lib.hid hi
    have HZ0 := Lib.hid hz0
    have HZ1 := Lib.hid hz1
    have HZ2 := Lib.hid hz2
    clear hi hz0 hz1 hz2
    obtain ⟨k, hk, hkn⟩ : ∃ k, n1 % 12 = k ∧ k < 12 := ⟨_, rfl, Nat.mod_lt _ (by omega)⟩
    have HEK : Hid ((n1 : Int) % 12 = (k : Int)) := by rw [← hk]; rfl
    obtain ⟨bv, offv, yb, rfl, hy, tv⟩ := (hG1b.out.seg.ext (((hC2.trans hC3).trans hC4).trans hC5)).bool hkn
    have HY := Lib.hid hy
    have hbvl : bv < w5.heap.size := World.block_lt_of_cell? _ _ tv
    have HZr := Lib.hid (ep_zero HE.out k)
    have hekk := HEK.out
    have k0 : (0 : Int) ≤ (k : Int) := Int.natCast_nonneg _
    have k1 : (k : Int) < 12 := by omega
    clear hk hy
    have OE := own_empty w5 w5.heap.size 3 1 (Nat.le_refl _)
    have SV := Lib.hid ((hG1a.out.seg.ext (((hC2.trans hC3).trans hC4).trans hC5)).alloc (.cells #[] 3))
    go_wp2_with (first
      | (at_builtin
         refine wpList_append_seg _ rfl (.tmp 54) (.tmp 55) 23 rfl w5.heap.size 3 i0 _ 1 8 Try.underlying23 HI.out HZ0.out HZ1.out HZ2.out rfl (by omega) _ 0 [] rfl OE A1a 12 c1a (encI vs1a) rfl SV.out (oneCI _) ?_ ?_ ?_ ?_
         (unfold maxLen; omega)
         omega
         (first | exact Nat.le_refl _ | simp)
         (intro A9 c9 w9 hown9 hg9)
         (have P9 := own_parts (show w9.ownsRow w5.heap.size 3 1 (.slice A9 12 c9) 12 (encI vs1a) from (by simpa using hown9)))
         (obtain ⟨b9, off9, x9, rfl, hx9, q9⟩ := P9.1.int hkn)
         (have HF9 := Lib.hid P9.2.1)
         (have f9 := P9.2.1 b9 off9 rfl k (by omega))
         (have hb9 : w5.heap.size ≤ b9 := (P9.2.2 (by omega) _ rfl).1)
         (have E9 : Hid (Ext w5 (w9.setCell ⟨b9, off9 + k, none⟩ (.int .i64 0))) := (((Ext.refl w5).alloc _).grown hg9 (fun k hk => Nat.le_of_eq (Option.some.inj hk))).setNew (show w5.heap.size ≤ b9 from hb9) _)
         (have S9 := Lib.hid (P9.1.setAt (i := k) (by rw [P9.1.1]; omega) (.int .i64 0)))
         (clear hx9 P9 hown9 hg9 OE)))
    have es : ∀ z : Int, (encI vs1a).set k (.int .i64 z) = encI (vs1a.set k z) := fun z => by simp [encI, List.map_set]
    have HES := Lib.hid es
    rw [es] at S9
    clear es f9 q9
    have hn12 : (12 : Nat) ≤ maxLen := by unfold maxLen; omega
    have hV9 := Lib.hid ((hG1b.out.seg.ext (((hC2.trans hC3).trans hC4).trans hC5)).ext E9.out)
    refine (calls_val (implEP_any (some ⟨b9, off9, none⟩) 12 c9 (vs1a.set k 0) (some ⟨bv, offv, none⟩) 12 c1b vs1b _ hn12 S9.out hn12 hV9.out) (congrArg Value.bool HZr.out)).mono ?_
    rintro e w10 ⟨rfl, hE10⟩
    have S10 := Lib.hid (S9.out.ext hE10)
    have hF10 := Lib.hid ((HF9.out.setCell ⟨b9, off9 + k, none⟩ (.int .i64 0)).ext S9.out hE10)
    obtain ⟨b', off', x', e', hx', q10⟩ := S10.out.int hkn
    injection e' with e'; injection e' with e1 e2
    subst e1; subst e2
    have f10 := hF10.out b9 off9 rfl k (by omega)
    have tv10 := hE10.cell (E9.out.cell tv)
    have hE10' := Lib.hid (E9.out.trans hE10)
    have hV10 := Lib.hid (hV9.out.ext hE10)
    have hne : bv ≠ b9 := by omega
    have hne2 : b9 ≠ bv := by omega
    have hne3 : bv < b9 := by omega
    clear hx' tv hE10
    have s11 := S10.out.setAt (i := k) (by rw [S10.out.1]; omega) (.int .i64 1)
    have HS11 := Lib.hid s11
    have eset : ∀ (z y : Int), ((encI (vs1a.set k y)).set k (.int .i64 z)) = encI (vs1a.set k z) := fun z y => by simp [encI, List.map_set]
    rw [eset] at HS11
    have KV : Hid (∀ W, Kept b9 (b9 + 1) w10 W → Seg W 1 (some ⟨bv, offv, none⟩) 12 (encB vs1b)) := fun W e => hV10.out.kept (lo' := bv) (hi' := bv + 1) (fun _ ad h => by injection h with h; subst h; simp) e (by omega)
    cases yb
    · have HFl := Lib.hid (ep_flip HE.out hkn HY.out (z := 1) rfl)
      clear eset s11
      go_wp2_with fail
      refine (calls_val (implEP_any (some ⟨b9, off9, none⟩) 12 c9 (vs1a.set k 1) (some ⟨bv, offv, none⟩) 12 c1b vs1b _ hn12 HS11.out hn12 (KV.out _ ((Kept.refl _ _ _).setIn (by simp) _))) (congrArg Value.bool HFl.out)).mono ?_
      rintro e w12 ⟨rfl, hE12⟩
      have hF := Lib.hid (((((hC1.trans hC2).trans hC3).trans hC4).trans hC5).trans ((hE10'.out.setNew (p := ⟨b9, off9 + k, none⟩) hb9 (.int .i64 1)).trans hE12))
      clear q10 f10 tv10 hE12
      go_wp2
      go_ret
      exact ⟨rfl, hF.out⟩
    · have HFl := Lib.hid (ep_flip HE.out hkn HY.out (z := -1) rfl)
      obtain ⟨b', off', x2, e', hx2, q11⟩ := HS11.out.int hkn
      injection e' with e'; injection e' with e1 e2
      subst e1; subst e2
      have s12 := HS11.out.setAt (i := k) (by rw [HS11.out.1]; omega) (.int .i64 (-1))
      rw [eset] at s12
      have HS12 := Lib.hid s12
      clear eset s11 s12 hx2
      go_wp2_with fail
      refine (calls_val (implEP_any (some ⟨b9, off9, none⟩) 12 c9 (vs1a.set k (-1)) (some ⟨bv, offv, none⟩) 12 c1b vs1b _ hn12 HS12.out hn12 (KV.out _ (((Kept.refl _ _ _).setIn (by simp) _).setIn (by simp) _))) (congrArg Value.bool HFl.out)).mono ?_
      rintro e w12 ⟨rfl, hE12⟩
      have hF := Lib.hid (((((hC1.trans hC2).trans hC3).trans hC4).trans hC5).trans (((hE10'.out.setNew (p := ⟨b9, off9 + k, none⟩) hb9 (.int .i64 1)).setNew (p := ⟨b9, off9 + k, none⟩) hb9 (.int .i64 (-1))).trans hE12))
      clear q10 q11 f10 tv10 hE12
      go_wp2
      go_ret
      exact ⟨rfl, hF.out⟩
  · have HE := Lib.hid (show epB vs1a vs1b = false by simpa using he)
    clear he
    obtain ⟨pb, hpb⟩ : ∃ b, Hid (pvB vs1a = b) := ⟨_, rfl⟩
    cases pb
    · skip
      go_wp2_with fail
      refine (calls_val (implEP_any A1a n1a c1a vs1a A1b n1b c1b vs1b _ hn1a hG1a.out.seg hn1b hG1b.out.seg) (congrArg Value.bool HE.out)).mono ?_
      rintro e w2 ⟨rfl, hE2⟩
      have hC2 : Ext w1 w2 := hE2
      have ze2 := hC2.size
      clear hE2
      go_wp2_with fail
      refine (calls_val (specEP_any A1a n1a c1a vs1a A1b n1b c1b vs1b _ hn1a (hG1a.out.seg.ext hC2) hn1b (hG1b.out.seg.ext hC2)) (congrArg Value.bool HE.out)).mono ?_
      rintro e w3 ⟨rfl, hE3⟩
      have hC3 : Ext w2 w3 := hE3
      have ze3 := hC3.size
      clear hE3
      go_wp2_with fail
      refine (calls_val (implPV_any A1a n1a c1a vs1a _ hn1a (hG1a.out.seg.ext (hC2.trans hC3))) (congrArg Value.bool hpb.out)).mono ?_
      rintro e w4 ⟨rfl, hE4⟩
      have hC4 : Ext w3 w4 := hE4
      have ze4 := hC4.size
      clear hE4
      go_wp2_with fail
      refine (calls_val (specPV_any A1a n1a c1a vs1a _ hn1a (hG1a.out.seg.ext ((hC2.trans hC3).trans hC4))) (congrArg Value.bool hpb.out)).mono ?_
      rintro e w5 ⟨rfl, hE5⟩
      have hC5 : Ext w4 w5 := hE5
      have ze5 := hC5.size
      clear hE5
      go_wp2_with fail
      refine (calls_val (specEP_any A1a n1a c1a vs1a A1b n1b c1b vs1b _ hn1a (hG1a.out.seg.ext (((hC2.trans hC3).trans hC4).trans hC5)) hn1b (hG1b.out.seg.ext (((hC2.trans hC3).trans hC4).trans hC5))) (congrArg Value.bool HE.out)).mono ?_
      rintro e w6 ⟨rfl, hE6⟩
      have hC6 : Ext w5 w6 := hE6
      have ze6 := hC6.size
      clear hE6
      go_wp2_with fail
      refine (calls_val (implPV_any A1a n1a c1a vs1a _ hn1a (hG1a.out.seg.ext ((((hC2.trans hC3).trans hC4).trans hC5).trans hC6))) (congrArg Value.bool hpb.out)).mono ?_
      rintro e w7 ⟨rfl, hE7⟩
      have hC7 : Ext w6 w7 := hE7
      have ze7 := hC7.size
      clear hE7
      go_wp2_with fail
      refine (calls_val (specPV_any A1a n1a c1a vs1a _ hn1a (hG1a.out.seg.ext (((((hC2.trans hC3).trans hC4).trans hC5).trans hC6).trans hC7))) (congrArg Value.bool hpb.out)).mono ?_
      rintro e w8 ⟨rfl, hE8⟩
      have hC8 : Ext w7 w8 := hE8
      have ze8 := hC8.size
      clear hE8
      go_wp2
      go_ret
      exact ⟨rfl, (((((((hC1.trans hC2).trans hC3).trans hC4).trans hC5).trans hC6).trans hC7).trans hC8)⟩
    · skip
      go_wp2_with fail
      refine (calls_val (implEP_any A1a n1a c1a vs1a A1b n1b c1b vs1b _ hn1a hG1a.out.seg hn1b hG1b.out.seg) (congrArg Value.bool HE.out)).mono ?_
      rintro e w2 ⟨rfl, hE2⟩
      have hC2 : Ext w1 w2 := hE2
      have ze2 := hC2.size
      clear hE2
      go_wp2_with fail
      refine (calls_val (specEP_any A1a n1a c1a vs1a A1b n1b c1b vs1b _ hn1a (hG1a.out.seg.ext hC2) hn1b (hG1b.out.seg.ext hC2)) (congrArg Value.bool HE.out)).mono ?_
      rintro e w3 ⟨rfl, hE3⟩
      have hC3 : Ext w2 w3 := hE3
      have ze3 := hC3.size
      clear hE3
      go_wp2_with fail
      refine (calls_val (implPV_any A1a n1a c1a vs1a _ hn1a (hG1a.out.seg.ext (hC2.trans hC3))) (congrArg Value.bool hpb.out)).mono ?_
      rintro e w4 ⟨rfl, hE4⟩
      have hC4 : Ext w3 w4 := hE4
      have ze4 := hC4.size
      clear hE4
      go_wp2_with fail
      refine (calls_val (specPV_any A1a n1a c1a vs1a _ hn1a (hG1a.out.seg.ext ((hC2.trans hC3).trans hC4))) (congrArg Value.bool hpb.out)).mono ?_
      rintro e w5 ⟨rfl, hE5⟩
      have hC5 : Ext w4 w5 := hE5
      have ze5 := hC5.size
      clear hE5
      go_wp2_with fail
      refine (calls_val (specEP_any A1a n1a c1a vs1a A1b n1b c1b vs1b _ hn1a (hG1a.out.seg.ext (((hC2.trans hC3).trans hC4).trans hC5)) hn1b (hG1b.out.seg.ext (((hC2.trans hC3).trans hC4).trans hC5))) (congrArg Value.bool HE.out)).mono ?_
      rintro e w6 ⟨rfl, hE6⟩
      have hC6 : Ext w5 w6 := hE6
      have ze6 := hC6.size
      clear hE6
      go_wp2_with fail
      refine (calls_val (implPV_any A1a n1a c1a vs1a _ hn1a (hG1a.out.seg.ext ((((hC2.trans hC3).trans hC4).trans hC5).trans hC6))) (congrArg Value.bool hpb.out)).mono ?_
      rintro e w7 ⟨rfl, hE7⟩
      have hC7 : Ext w6 w7 := hE7
      have ze7 := hC7.size
      clear hE7
      go_wp2_with fail
      refine (calls_val (specPV_any A1a n1a c1a vs1a _ hn1a (hG1a.out.seg.ext (((((hC2.trans hC3).trans hC4).trans hC5).trans hC6).trans hC7))) (congrArg Value.bool hpb.out)).mono ?_
      rintro e w8 ⟨rfl, hE8⟩
      have hC8 : Ext w7 w8 := hE8
      have ze8 := hC8.size
      clear hE8
      go_wp2
      go_ret
      exact ⟨rfl, (((((((hC1.trans hC2).trans hC3).trans hC4).trans hC5).trans hC6).trans hC7).trans hC8)⟩

theorem own : ownKnob Try.prog.godebug = none := by kernel_rfl
theorem laidOut : laidOutB Try.prog = true := by kernel_rfl

set_option maxRecDepth 100000 in
theorem lifted (os : Os) (started : os.Started) (H : Type) (enc : TypeId × Value → H) :
    ReturnsInHanded {} Try.checked os 3 .any (Rows.fnExtendsPartialSpec.pre6 enc Try.prog Try.f3 Rows.fnExtendsPartialRow.domain false) (Rows.fnExtendsPartialSpec.post enc Try.prog Try.f3 false true false false) := by
  refine returnsInHanded_of_change (C := Try.checked) own started (by kernel_rfl) Try.func3
    (ChangeSpec.witness6 (enc := enc) (C := Try.checked) false ⟨#[], #[.slice none 0 0, .slice none 0 0], []⟩ 8 (by kernel_rfl) (by kernel_rfl) (by kernel_rfl) (by kernel_rfl)) ?_
  intro W base args ds gs before hval0 hW hcnd _
  have hval : ∀ (j : Nat) t v, Try.f3.params[j]? = some t → args[j]? = some v → Value.okWide Try.prog W .any base t v := hval0
  have hW' := hW
  obtain ⟨p, q, hA0, hV, rfl, hfz, hnd⟩ := hW
  have hA : DataW.TrodAll enc Try.prog W 0 (fun _ => true) true Try.f3.params.toList args.toList ds p := hA0
  rw [Try.params3] at hA hval
  obtain ⟨v0, vs0, d0, ds0, p0, q0, hargs, rfl, rfl, h0, r0⟩ := trodAll_cons hA
  obtain ⟨v1, vs1, d1, ds1, p1, q1, rfl, rfl, rfl, h1, r1⟩ := trodAll_cons r0
  obtain ⟨rfl, rfl, rfl⟩ := trodAll_nil r1
  obtain rfl : args = #[v0, v1] := by cases args; simp_all
  obtain ⟨rfl, rfl⟩ := trodVars_none hV
  have k0 := h0
  have lt0 : ∀ x ∈ p0, x.block < W.heap.size := by obtain ⟨m, hm⟩ := k0; exact DataW.trod_lt m _ _ _ hm
  obtain ⟨A0, n0, cap0, zs0, rfl, hn0, hc0, hs0, hb0⟩ := arg_bytes (hval 0 22 v0 rfl rfl) h0
  have k1 := h1
  have lt1 : ∀ x ∈ p1, x.block < W.heap.size := by obtain ⟨m, hm⟩ := k1; exact DataW.trod_lt m _ _ _ hm
  obtain ⟨A1, n1, cap1, zs1, rfl, hn1, hc1, hs1, hb1⟩ := arg_bytes (hval 1 22 v1 rfl rfl) h1
  clear hA0 hval0
  refine (walk A0 n0 cap0 zs0 A1 n1 cap1 zs1 W hn0 hc0 hs0 hb0 hn1 hc1 hs1 hb1).mono fun e W' ⟨he, ext⟩ => ?_
  subst he
  have bel := ext.below
  exact ⟨_, rfl, _, _, _, [], _, [], hW', trodAll_mk1 (shut_bool Try.underlying4 _), (trodAll_cons_mk (Below.trod laidOut (by kernel_rfl) (of_decide_eq_true (by kernel_rfl)) k0 bel lt0) (trodAll_cons_mk (Below.trod laidOut (by kernel_rfl) (of_decide_eq_true (by kernel_rfl)) k1 bel lt1) trodAll_mk0)), rfl, bel.frame _, fun h => by cases h⟩

theorem over : Rows.fnExtendsPartialRow.holds Try.pinned (OpenSpec.ofChange Rows.fnExtendsPartialSpec) :=
  OpenClaim.holds_of_wide 3 Try.f3 rfl rfl rfl rfl rfl rfl rfl ⟨rfl, rfl, rfl, rfl, rfl⟩ rfl rfl rfl rfl rfl (by kernel_rfl) Try.func3 (by kernel_rfl)
    (of_decide_eq_true (by kernel_rfl)) (by unfold Func.isWrapper; first | (rw [if_pos (by decide +kernel)]; kernel_rfl) | (rw [if_neg (by decide +kernel)]; exact ⟨rfl, rfl⟩))
    (fun os started H enc _ => lifted os started H enc)

theorem proved : Rows.FnExtendsPartialSaid := over

end Go.Proofs.Ytihmkbfobihddaa.extendsPartial
