/- laws.FnCountSplit: for all bytes, the program's CountSolutions returns what the reference's returns, and the solutions are those in which a variable is true and those in which it is false. No condition. -/
import Derived.Test.YtmbdfnimmjomfaaRdH
import Derived.Test.YtmbdfnimmjomfaaPlCn
import Derived.Test.YtmbdfnimmjomfaaAppU
import Derived.Test.YtmbdfnimmjomfaaProbV
import Derived.Test.YtmbdfnimmjomfaaOpenY
import Derived.Test.YtmbdfnimmjomfaaFacts
namespace Go.Proofs.Ytmbdfnimmjomfaa.countSplit
open Go.ChangeShapes Go.WideShapes Go.ChangeAt Go.RowKit
set_option linter.unusedVariables false

set_option maxRecDepth 100000 in
set_option maxHeartbeats 4000000 in
theorem walk (A0 : Option Addr) (n0 cap0 : Nat) (zs0 : List Int) (A1 : Option Addr) (n1 cap1 : Nat) (zs1 : List Int) (w : World) (hn0 : n0 ≤ maxLen) (hc0 : n0 ≤ cap0) (hs0 : Seg w 1 A0 n0 (encY zs0)) (hb0 : bytesB zs0) (hn1 : n1 ≤ maxLen) (hc1 : n1 ≤ cap1) (hs1 : Seg w 1 A1 n1 (encY zs1)) (hb1 : bytesB zs1) :
    Calls Try.prog 5 #[.slice A0 n0 cap0, .slice A1 n1 cap1] w fun e w' => e = .returned (.bool true) ∧ Ext w w' := by
  by_cases hbig : 1048576 < n0
  · clear hs0 hs1
    go_enter Try.func5, Try.ntmps5
    go_wp2
    go_ret
    exact ⟨rfl, Ext.refl _⟩
  by_cases hbig1 : 1048576 < n1
  · clear hs0 hs1
    have hb2 : decide ((1048576 : Int) < (n0 : Int)) = false := decide_eq_false (by omega)
    go_enter Try.func5, Try.ntmps5
    go_wp2
    go_ret
    exact ⟨rfl, Ext.refl _⟩
  have hb2 : decide ((1048576 : Int) < (n0 : Int)) = false := decide_eq_false (by omega)
  have hb3 : decide ((1048576 : Int) < (n1 : Int)) = false := decide_eq_false (by omega)
  go_enter Try.func5, Try.ntmps5
  go_wp2_with fail
  refine (drawCnt_any A0 n0 cap0 zs0 _ hn0 hc0 hs0 hb0).mono ?_
  rintro e w1 ⟨A1a, n1a, c1a, cs1a, rfl, hl1a, hm1a, hg1a, hE1⟩
  have hC1 : Ext w w1 := hE1
  have ze1 := hC1.size
  clear hE1
  have hn1a : n1a ≤ maxLen := by unfold maxLen; omega
  have HL1a := Lib.hid hl1a
  have hG1a := Lib.hid hg1a
  clear hl1a hg1a
  obtain ⟨zc, hzc⟩ : ∃ z, Hid (cnI cs1a = z) := ⟨_, rfl⟩
  by_cases hv : probB cs1a = true
  · have HV := Lib.hid hv
    clear hv
    go_wp2_with fail
    refine (calls_val (implCnt_any A1a n1a c1a cs1a _ hn1a hG1a.out) (congrArg (Value.int .i64) hzc.out)).mono ?_
    rintro e w2 ⟨rfl, hE2⟩
    have hC2 : Ext w1 w2 := hE2
    have ze2 := hC2.size
    clear hE2
    go_wp2_with fail
    refine (calls_val (specCnt_any A1a n1a c1a cs1a _ hn1a (hG1a.out.ext hC2)) (congrArg (Value.int .i64) hzc.out)).mono ?_
    rintro e w3 ⟨rfl, hE3⟩
    have hC3 : Ext w2 w3 := hE3
    have ze3 := hC3.size
    clear hE3
    go_wp2_with fail
    refine (calls_val (implProbV_any A1a n1a c1a cs1a _ hn1a (hG1a.out.ext (hC2.trans hC3))) (congrArg Value.bool HV.out)).mono ?_
    rintro e w4 ⟨rfl, hE4⟩
    have hC4 : Ext w3 w4 := hE4
    have ze4 := hC4.size
    clear hE4
    obtain ⟨k, hk, hk12⟩ : ∃ k, n1 % 12 = k ∧ k < 12 := ⟨_, rfl, Nat.mod_lt _ (by omega)⟩
    have HEK : Hid ((n1 : Int) % 12 = (k : Int)) := by rw [← hk]; rfl
    have hek := HEK.out
    have k0 : (0 : Int) ≤ (k : Int) := Int.natCast_nonneg _
    have k1 : (k : Int) < 12 := by omega
    obtain ⟨za, hza⟩ : ∃ z, Hid (cnI (cs1a ++ [([(1, 1 + (k : Int))], 1)]) = z) := ⟨cnI (cs1a ++ [([(1, 1 + (k : Int))], 1)]), Lib.hid rfl⟩
    obtain ⟨zb, hzb⟩ : ∃ z, Hid (cnI (cs1a ++ [([(1, -(1 + (k : Int)))], 1)]) = z) := ⟨cnI (cs1a ++ [([(1, -(1 + (k : Int)))], 1)]), Lib.hid rfl⟩
    have hsum : zc = za + zb := by
      have := cn_split' HV.out (by rw [HL1a.out]; omega) hk12
      rw [hzc.out, hza.out, hzb.out] at this; exact this
    have hba := cnI_bd (cs1a ++ [([(1, 1 + (k : Int))], 1)])
    have hbb := cnI_bd (cs1a ++ [([(1, -(1 + (k : Int)))], 1)])
    rw [hza.out] at hba
    rw [hzb.out] at hbb
    have HSUM := Lib.hid hsum
    have HBA := Lib.hid hba
    have HBB := Lib.hid hbb
    have SL := Lib.hid (hG1a.out.ext ((hC2.trans hC3).trans hC4))
    have E0 := Lib.hid (((hC1.trans hC2).trans hC3).trans hC4)
    have hn9 : n1a + 1 ≤ maxLen := by unfold maxLen; omega
    clear hk hsum hba hbb
    obtain ⟨i0, hi, hz0, hz1, hz2⟩ := info_parts Try.infoCnL
    have HI := Lib.hid hi
    have HZ0 := Lib.hid hz0
    have HZ1 := Lib.hid hz1
    have HZ2 := Lib.hid hz2
    clear hi hz0 hz1 hz2
    obtain ⟨hsp, hlp, hSp, hinp⟩ := SL.out
    have HINp := Lib.hid hinp
    have HLp := Lib.hid hlp
    have SVp := Lib.hid (hSp.alloc (.cells #[] 26))
    have OE := own_empty w4 (w4).heap.size 26 2 (Nat.le_refl _)
    clear hinp hlp hSp
    go_wp2_with (first
      | (at_builtin
         refine wpList_append_seg _ rfl (.tmp 39) (.tmp 40) 42 rfl (w4).heap.size 26 i0 _ 2 32 Try.underlying42 HI.out HZ0.out HZ1.out HZ2.out rfl (by omega) (.slice (some ⟨(w4).heap.size, 0, none⟩) 0 0) 0 [] rfl OE A1a n1a c1a (encH hsp cs1a) rfl SVp.out (oneCHl _ _) ?_ ?_ ?_ ?_
         (unfold maxLen; omega)
         omega
         (first | exact Nat.le_refl _ | simp)
         (intro A8p c8p w8p hown8 hg8)
         (simp only [Nat.zero_add, List.nil_append] at hown8 ⊢)
         (have HO8p := Lib.hid hown8)
         (have HE8p : Hid (Ext (w4) w8p) := ((Ext.refl (w4)).alloc _).grown hg8 (fun k hk => Nat.le_of_eq (Option.some.inj hk)))
         (have hz8p := HE8p.out.size)
         (clear hown8 hg8 OE SVp))
      | (at_builtin
         refine wpList_append_own _ rfl (.tmp 41) (.tmp 46) 42 rfl (w4).heap.size 26 i0 _ 2 32 Try.underlying42 HI.out HZ0.out HZ1.out HZ2.out rfl (by omega) (.slice A8p n1a c8p) n1a _ rfl ((HO8p.out.alloc _).alloc _) ⟨w8p.heap.size + 1, 0, none⟩ 1 1 [.slice (some ⟨w8p.heap.size, 0, none⟩) 1 1, .int .i64 1] rfl rfl (by have := cell_two_new (w8p.alloc (.cells #[.int .i64 1, .int .i64 (1 + (k : Int))] 47)) (.slice (some ⟨w8p.heap.size, 0, none⟩) 1 1) (.int .i64 1) 26; rw [World.size_alloc] at this; exact this) ?_ ?_ ?_ ?_ ?_
         (intro u hu; simp at hu; rcases hu with rfl | rfl <;> rfl)
         (unfold maxLen; omega)
         omega
         (simp; omega)
         (intro v9 w9p hown9 hg9 _)
         (obtain ⟨A9p, c9p, rfl⟩ := own_slice hown9)
         (have HE9p : Hid (Ext (w4) w9p) := own_ext ((HE8p.out.alloc _).alloc _) ((HO8p.out.alloc _).alloc _) (Nat.le_refl _) hg9)
         (have HT9p : Hid (Seg w9p 2 (some ⟨w8p.heap.size, 0, none⟩) 1 (encT [(1, (1 + (k : Int)))])) := blk_segT (blk_grownU ((Blk.new w8p 47 #[.int .i64 1, .int .i64 (1 + (k : Int))]).alloc _) hg9 (fun e => by have := (HO8p.out.lt _ e.symm).2; omega)))
         (have HS9p : Hid (SegC w9p A9p (n1a + 1) (cs1a ++ [([(1, (1 + (k : Int)))], 1)])) := segC_one HLp.out (own_parts hown9).1 (fun i h c e1 e2 => ⟨(HINp.out i h c e1 e2).1, (HINp.out i h c e1 e2).2.ext HE9p.out⟩) (by unfold maxLen; omega) HT9p.out)
         (have hz9p := HE9p.out.size)
         (clear hown9 hg9 HO8p HE8p HT9p HINp)))
    refine (calls_val (implCnt_any A9p (n1a + 1) c9p (cs1a ++ [([(1, 1 + (k : Int))], 1)]) _ hn9 HS9p.out) (congrArg (Value.int .i64) hza.out)).mono ?_
    rintro e wm ⟨rfl, hEm⟩
    have HEm := Lib.hid (HE9p.out.trans hEm)
    have SLm := Lib.hid (SL.out.ext HEm.out)
    have hzm := HEm.out.size
    clear hEm HE9p HS9p
    have wn : IntKind.i64.wrap (1 + (k : Int)) = 1 + (k : Int) := IntWalk.i64_in _ (by omega)
    obtain ⟨hsq, hlq, hSq, hinq⟩ := SLm.out
    have HINq := Lib.hid hinq
    have HLq := Lib.hid hlq
    have SVq := Lib.hid (hSq.alloc (.cells #[] 26))
    have OE := own_empty wm (wm).heap.size 26 2 (Nat.le_refl _)
    clear hinq hlq hSq
    go_wp2_with (first
      | (at_builtin
         refine wpList_append_seg _ rfl (.tmp 49) (.tmp 50) 42 rfl (wm).heap.size 26 i0 _ 2 32 Try.underlying42 HI.out HZ0.out HZ1.out HZ2.out rfl (by omega) (.slice (some ⟨(wm).heap.size, 0, none⟩) 0 0) 0 [] rfl OE A1a n1a c1a (encH hsq cs1a) rfl SVq.out (oneCHl _ _) ?_ ?_ ?_ ?_
         (unfold maxLen; omega)
         omega
         (first | exact Nat.le_refl _ | simp)
         (intro A8q c8q w8q hown8 hg8)
         (simp only [Nat.zero_add, List.nil_append] at hown8 ⊢)
         (have HO8q := Lib.hid hown8)
         (have HE8q : Hid (Ext (wm) w8q) := ((Ext.refl (wm)).alloc _).grown hg8 (fun k hk => Nat.le_of_eq (Option.some.inj hk)))
         (have hz8q := HE8q.out.size)
         (clear hown8 hg8 OE SVq))
      | (at_builtin
         refine wpList_append_own _ rfl (.tmp 51) (.tmp 57) 42 rfl (wm).heap.size 26 i0 _ 2 32 Try.underlying42 HI.out HZ0.out HZ1.out HZ2.out rfl (by omega) (.slice A8q n1a c8q) n1a _ rfl ((HO8q.out.alloc _).alloc _) ⟨w8q.heap.size + 1, 0, none⟩ 1 1 [.slice (some ⟨w8q.heap.size, 0, none⟩) 1 1, .int .i64 1] rfl rfl (by have := cell_two_new (w8q.alloc (.cells #[.int .i64 1, .int .i64 (-(1 + (k : Int)))] 47)) (.slice (some ⟨w8q.heap.size, 0, none⟩) 1 1) (.int .i64 1) 26; rw [World.size_alloc] at this; exact this) ?_ ?_ ?_ ?_ ?_
         (intro u hu; simp at hu; rcases hu with rfl | rfl <;> rfl)
         (unfold maxLen; omega)
         omega
         (simp; omega)
         (intro v9 w9q hown9 hg9 _)
         (obtain ⟨A9q, c9q, rfl⟩ := own_slice hown9)
         (have HE9q : Hid (Ext (wm) w9q) := own_ext ((HE8q.out.alloc _).alloc _) ((HO8q.out.alloc _).alloc _) (Nat.le_refl _) hg9)
         (have HT9q : Hid (Seg w9q 2 (some ⟨w8q.heap.size, 0, none⟩) 1 (encT [(1, (-(1 + (k : Int))))])) := blk_segT (blk_grownU ((Blk.new w8q 47 #[.int .i64 1, .int .i64 (-(1 + (k : Int)))]).alloc _) hg9 (fun e => by have := (HO8q.out.lt _ e.symm).2; omega)))
         (have HS9q : Hid (SegC w9q A9q (n1a + 1) (cs1a ++ [([(1, (-(1 + (k : Int))))], 1)])) := segC_one HLq.out (own_parts hown9).1 (fun i h c e1 e2 => ⟨(HINq.out i h c e1 e2).1, (HINq.out i h c e1 e2).2.ext HE9q.out⟩) (by unfold maxLen; omega) HT9q.out)
         (have hz9q := HE9q.out.size)
         (clear hown9 hg9 HO8q HE8q HT9q HINq)))
    refine (calls_val (implCnt_any A9q (n1a + 1) c9q (cs1a ++ [([(1, -(1 + (k : Int)))], 1)]) _ hn9 HS9q.out) (congrArg (Value.int .i64) hzb.out)).mono ?_
    rintro e wf ⟨rfl, hEf⟩
    have HF := Lib.hid (E0.out.trans (HEm.out.trans (HE9q.out.trans hEf)))
    have hba := HBA.out
    have hbb := HBB.out
    have hws : IntKind.i64.wrap (za + zb) = za + zb := IntWalk.i64_in _ (by omega)
    have hq : (zc == za + zb) = true := by rw [HSUM.out]; simp
    clear hEf hek wn
    go_wp2
    go_ret
    exact ⟨rfl, HF.out⟩
  · have HV := Lib.hid (show probB cs1a = false by simpa using hv)
    clear hv
    go_wp2_with fail
    refine (calls_val (implCnt_any A1a n1a c1a cs1a _ hn1a hG1a.out) (congrArg (Value.int .i64) hzc.out)).mono ?_
    rintro e w2 ⟨rfl, hE2⟩
    have hC2 : Ext w1 w2 := hE2
    have ze2 := hC2.size
    clear hE2
    go_wp2_with fail
    refine (calls_val (specCnt_any A1a n1a c1a cs1a _ hn1a (hG1a.out.ext hC2)) (congrArg (Value.int .i64) hzc.out)).mono ?_
    rintro e w3 ⟨rfl, hE3⟩
    have hC3 : Ext w2 w3 := hE3
    have ze3 := hC3.size
    clear hE3
    go_wp2_with fail
    refine (calls_val (implProbV_any A1a n1a c1a cs1a _ hn1a (hG1a.out.ext (hC2.trans hC3))) (congrArg Value.bool HV.out)).mono ?_
    rintro e w4 ⟨rfl, hE4⟩
    have hC4 : Ext w3 w4 := hE4
    have ze4 := hC4.size
    clear hE4
    go_wp2_with fail
    refine (calls_val (specCnt_any A1a n1a c1a cs1a _ hn1a (hG1a.out.ext ((hC2.trans hC3).trans hC4))) (congrArg (Value.int .i64) hzc.out)).mono ?_
    rintro e w5 ⟨rfl, hE5⟩
    have hC5 : Ext w4 w5 := hE5
    have ze5 := hC5.size
    clear hE5
    go_wp2
    go_ret
    exact ⟨rfl, ((((hC1.trans hC2).trans hC3).trans hC4).trans hC5)⟩

theorem own : ownKnob Try.prog.godebug = none := by kernel_rfl
theorem laidOut : laidOutB Try.prog = true := by kernel_rfl

set_option maxRecDepth 100000 in
theorem lifted (os : Os) (started : os.Started) (H : Type) (enc : TypeId × Value → H) :
    ReturnsInHanded {} Try.checked os 5 .any (Rows.fnCountSplitSpec.pre6 enc Try.prog Try.f5 Rows.fnCountSplitRow.domain false) (Rows.fnCountSplitSpec.post enc Try.prog Try.f5 false true false false) := by
  refine returnsInHanded_of_change (C := Try.checked) own started (by kernel_rfl) Try.func5
    (ChangeSpec.witness6 (enc := enc) (C := Try.checked) false ⟨#[], #[.slice none 0 0, .slice none 0 0], []⟩ 8 (by kernel_rfl) (by kernel_rfl) (by kernel_rfl) (by kernel_rfl)) ?_
  intro W base args ds gs before hval0 hW hcnd _
  have hval : ∀ (j : Nat) t v, Try.f5.params[j]? = some t → args[j]? = some v → Value.okWide Try.prog W .any base t v := hval0
  have hW' := hW
  obtain ⟨p, q, hA0, hV, rfl, hfz, hnd⟩ := hW
  have hA : DataW.TrodAll enc Try.prog W 0 (fun _ => true) true Try.f5.params.toList args.toList ds p := hA0
  rw [Try.params5] at hA hval
  obtain ⟨v0, vs0, d0, ds0, p0, q0, hargs, rfl, rfl, h0, r0⟩ := trodAll_cons hA
  obtain ⟨v1, vs1, d1, ds1, p1, q1, rfl, rfl, rfl, h1, r1⟩ := trodAll_cons r0
  obtain ⟨rfl, rfl, rfl⟩ := trodAll_nil r1
  obtain rfl : args = #[v0, v1] := by cases args; simp_all
  obtain ⟨rfl, rfl⟩ := trodVars_none hV
  have k0 := h0
  have lt0 : ∀ x ∈ p0, x.block < W.heap.size := by obtain ⟨m, hm⟩ := k0; exact DataW.trod_lt m _ _ _ hm
  obtain ⟨A0, n0, cap0, zs0, rfl, hn0, hc0, hs0, hb0⟩ := arg_bytes (hval 0 41 v0 rfl rfl) h0
  have k1 := h1
  have lt1 : ∀ x ∈ p1, x.block < W.heap.size := by obtain ⟨m, hm⟩ := k1; exact DataW.trod_lt m _ _ _ hm
  obtain ⟨A1, n1, cap1, zs1, rfl, hn1, hc1, hs1, hb1⟩ := arg_bytes (hval 1 41 v1 rfl rfl) h1
  clear hA0 hval0
  refine (walk A0 n0 cap0 zs0 A1 n1 cap1 zs1 W hn0 hc0 hs0 hb0 hn1 hc1 hs1 hb1).mono fun e W' ⟨he, ext⟩ => ?_
  subst he
  have bel := ext.below
  exact ⟨_, rfl, _, _, _, [], _, [], hW', trodAll_mk1 (shut_bool Try.underlying4 _), (trodAll_cons_mk (Below.trod laidOut (by kernel_rfl) (of_decide_eq_true (by kernel_rfl)) k0 bel lt0) (trodAll_cons_mk (Below.trod laidOut (by kernel_rfl) (of_decide_eq_true (by kernel_rfl)) k1 bel lt1) trodAll_mk0)), rfl, bel.frame _, fun h => by cases h⟩

set_option maxHeartbeats 4000000 in
theorem joined : joinedFacts Try.pinned.checked.prog 5 Try.f5 Rows.fnCountSplitSpec Rows.fnCountSplitRow = true := by
  unfold joinedFacts
  exact (and2 (and2 (and2 (and2 (and2 (and2 (and2 (and2 (and2 (and2 (and2 (and2 (and2 (and2 (and2 (and2 (and2 (and2 (and2 (and2 (and2 (and2 (and2 (and2 (and2 (and2 (and2 (and2 (and2 (and2 (and2 (by as_aux_lemma => kernel_rfl) (by as_aux_lemma => kernel_rfl)) (by as_aux_lemma => kernel_rfl)) (by as_aux_lemma => kernel_rfl)) (by as_aux_lemma => kernel_rfl)) (by as_aux_lemma => kernel_rfl)) (by as_aux_lemma => kernel_rfl)) (by as_aux_lemma => kernel_rfl)) (by as_aux_lemma => kernel_rfl)) (by as_aux_lemma => kernel_rfl)) (by as_aux_lemma => kernel_rfl)) (by as_aux_lemma => kernel_rfl)) (by as_aux_lemma => kernel_rfl)) (by as_aux_lemma => kernel_rfl)) (by as_aux_lemma => kernel_rfl)) (by as_aux_lemma => kernel_rfl)) (by as_aux_lemma => kernel_rfl)) (by as_aux_lemma => kernel_rfl)) (by as_aux_lemma => kernel_rfl)) (by as_aux_lemma => kernel_rfl)) (by as_aux_lemma => kernel_rfl)) (by as_aux_lemma => kernel_rfl)) (by as_aux_lemma => kernel_rfl)) (by as_aux_lemma => kernel_rfl)) (by as_aux_lemma => kernel_rfl)) jEnter) jLift) jMake) (by as_aux_lemma => kernel_rfl)) (by as_aux_lemma => kernel_rfl)) (by as_aux_lemma => kernel_rfl)) (by as_aux_lemma => kernel_rfl))

set_option maxHeartbeats 4000000 in
theorem over : Rows.fnCountSplitRow.holds Try.pinned (OpenSpec.ofChange Rows.fnCountSplitSpec) :=
  OpenClaim.holds_of_wide 5 Try.f5 rfl rfl rfl rfl rfl rfl rfl ⟨rfl, rfl, rfl, rfl, rfl⟩ rfl rfl rfl rfl rfl (by kernel_rfl) Try.func5 joined
    (of_decide_eq_true (by kernel_rfl)) (by unfold Func.isWrapper; first | (rw [if_pos (by decide +kernel)]; kernel_rfl) | (rw [if_neg (by decide +kernel)]; exact ⟨rfl, rfl⟩))
    (fun os started H enc _ => lifted os started H enc)

theorem proved : Rows.FnCountSplitSaid := over

end Go.Proofs.Ytmbdfnimmjomfaa.countSplit
