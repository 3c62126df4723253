/- laws.FnConstraintFalse: for all bytes, the program's ConstraintFalse answers as the reference's, and a constraint is false just where the best values do not satisfy it. No condition. -/
import Derived.Test.YtpkglggomiklcaaRdV
import Derived.Test.YtpkglggomiklcaaPlC
import Derived.Test.YtpkglggomiklcaaOpenY
import Derived.Test.YtpkglggomiklcaaMk
namespace Go.Proofs.Ytpkglggomiklcaa.constraintFalse
open Go.ChangeShapes Go.WideShapes Go.ChangeAt Go.RowKit
set_option linter.unusedVariables false

set_option maxRecDepth 100000 in
set_option maxHeartbeats 4000000 in
theorem walk (A0 : Option Addr) (n0 cap0 : Nat) (zs0 : List Int) (w : World) (hn0 : n0 ≤ maxLen) (hc0 : n0 ≤ cap0) (hs0 : Seg w 1 A0 n0 (encY zs0)) (hb0 : bytesB zs0) :
    Calls Try.prog 7 #[.slice A0 n0 cap0] w fun e w' => e = .returned (.bool true) ∧ Ext w w' := by
  by_cases hbig : 1048576 < n0
  · clear hs0
    go_enter Try.func7, Try.ntmps7
    go_wp2
    go_ret
    exact ⟨rfl, Ext.refl _⟩
  go_enter Try.func7, Try.ntmps7
  go_wp2_with fail
  refine (drawConstraintFalse_any A0 n0 cap0 zs0 w hn0 hc0 hs0 hb0).mono ?_
  rintro e w1 ⟨A, n, c, ts, bd, rfl, hl, hn, hG, hE1⟩
  have HL := Lib.hid hl
  have HG := Lib.hid hG
  have HS := Lib.hid (hG.seg.alloc (.cells #[.slice A n c, .int .i64 bd] 29))
  have HB := Lib.hid (Blk.new w1 29 #[.slice A n c, .int .i64 bd])
  have HE := Lib.hid (hE1.alloc (.cells #[.slice A n c, .int .i64 bd] 29))
  have hm : n ≤ maxLen := by unfold maxLen; omega
  have HLi := Lib.hid HG.out.lies
  have hz0 := hE1.size
  clear hl hG hE1 hs0 hb0
  have b0 := HB.out.cell 0
  have b1 := HB.out.cell 1
  go_wp2_with fail
  refine (implCF_any A n c ts bd _ hm HS.out).mono ?_
  rintro e w2 ⟨rfl, hE2⟩
  obtain ⟨fb, hfb⟩ : ∃ b, Hid (cfB ts bd = b) := ⟨_, rfl⟩
  obtain ⟨tb, htb⟩ : ∃ b, Hid (tcI ts bd = b) := ⟨_, rfl⟩
  rw [hfb.out]
  have HS2 := HS.out.ext hE2
  have HB2 := HB.out.ext hE2
  have HEE := Lib.hid (HE.out.trans hE2)
  have hzz := HB2.lt
  have c0 : ∀ p : ExtBy w2, p.to.cell? ⟨w1.heap.size, 0, none⟩ = some (.slice A n c) := fun p => p.cell (HB2.cell 0)
  have c1 : ∀ p : ExtBy w2, p.to.cell? ⟨w1.heap.size, 1, none⟩ = some (.int .i64 bd) := fun p => p.cell (HB2.cell 1)
  have K2 := Lib.hid HB2
  have hS2 := Lib.hid HS2
  clear b0 b1 hE2 HS2 HB2 HB HS HE HG
  by_cases hv : cvB ts bd = true
  · have HV := Lib.hid hv
    clear hv
    cases fb
    all_goals
      go_wp2_with fail
      refine wp_region_ext_lit (by kernel_rfl) (by kernel_rfl) ?_
      repeat (go_big_quiet_step (first
        | (go_at_call 38; exact ext_call (calls_val (specCF_any A n c ts bd _ hm (hS2.out.ext (ExtBy.ext _))) (congrArg Value.bool hfb.out)))
        | (go_at_call 39; exact ext_call (calls_val (implTC_any A n c ts bd _ hm (hS2.out.ext (ExtBy.ext _))) (congrArg (Value.int .i64) htb.out)))
        | (go_at_call 40; exact ext_call (calls_val (specTC_any A n c ts bd _ hm (hS2.out.ext (ExtBy.ext _))) (congrArg (Value.int .i64) htb.out)))
        | (go_at_call 41; exact ext_call (calls_val (implCV_any A n c ts bd _ hm (hS2.out.ext (ExtBy.ext _))) (congrArg Value.bool HV.out)))))
      refine wpQuiet_nil ?_
      intro _ hw'
      obtain ⟨⟨w3, hE3⟩, hw''⟩ := hw'
      subst hw''
      have HEW := Lib.hid (HEE.out.trans hE3)
      have KB3 := Lib.hid (K2.out.ext hE3)
      have KS3 := Lib.hid (hS2.out.ext hE3)
      have hz3 := hE3.size
      clear c0 c1 hE3 K2 hS2 HEE
      rename_i wx
      have hmk := Try.mkB12
      go_wp2_with fail
      clear hmk
      go_loopw [6] (fun i wr => ∃ (j : Nat), j ≤ n ∧ i = .int .i64 j ∧ Ext w wr ∧ Hid (Blk wr w1.heap.size 29 #[.slice A n c, .int .i64 bd]) ∧ Hid (Seg wr 2 A n (encT ts)) ∧ Hid (Blk wr wx.heap.size 4 (encB (bestV (ts.take j))).toArray)) (fun i _ => n - (intOf i).toNat)
      case atStart => exact ⟨0, by omega, rfl, HEW.out.alloc _, KB3.out.alloc _, KS3.out.alloc _, Blk.new _ _ _⟩
      case round =>
        clear HEW KB3 KS3
        obtain ⟨j, hj, rfl, hE, hBc, hSc, hBv⟩ := hrel
        have b0 := hBc.out.cell 0
        have b1 := hBc.out.cell 1
        by_cases hlt : j < n
        · obtain ⟨b, off, cf, l, rfl, hx, t1, t2⟩ := hSc.out.term hlt
          have hlit := cvB_lit HV.out _ (List.mem_of_getElem? hx)
          have hsn := bestV_snoc (ts.take j) (cf, l)
          rw [← take_of_get _ _ _ hx] at hsn
          have HSN := Lib.hid hsn
          clear hx hsn
          obtain ⟨m, hm12, hl | hl⟩ := lit_cases hlit
          · simp only at hl
            subst hl
            have o1 : wr.cell? ⟨wx.heap.size, m, none⟩ = some ((encB (bestV (ts.take j)))[m]'(by simp [encB, bestV_len]; omega)) := by rw [hBv.out.cell]; simp
            have f1 := hBv.out.frozen m
            have hBv2 := Lib.hid (hBv.out.set_ m (.bool true))
            rw [encB_set1, ← setL_pos, ← HSN.out] at hBv2
            have hv1 : (m : Int) < 12 := by omega
            have hv0 : (0 : Int) ≤ (m : Int) := Int.natCast_nonneg _
            have hv2 : (0 : Int) < (m : Int) + 1 := by omega
            clear hlit
            go_wp2
            go_roundw
            case rel => exact ⟨j + 1, by omega, by go_num, hE.setNew (by simp only; omega) _, hBc.out.far (p := ⟨wx.heap.size, m, none⟩) (by simp only; omega) _, hSc.out.kept HLi.out ((Kept.refl wx.heap.size (wx.heap.size + 1) wr).setIn (p := ⟨wx.heap.size, m, none⟩) (by simp) _) (.inl (by omega)), hBv2.out⟩
            case measure => simp [intOf]; omega
          · simp only at hl
            subst hl
            rw [setL_neg] at HSN
            have hv2 : decide ((0 : Int) < -((m : Int) + 1)) = false := decide_eq_false (by omega)
            clear hlit
            go_wp2
            go_roundw
            case rel => exact ⟨j + 1, by omega, by go_num, hE, hBc.out, hSc.out, by rw [HSN.out]; exact hBv.out⟩
            case measure => simp [intOf]; omega
        · obtain rfl : j = n := by omega
          have hSv : Hid (Seg wr 1 (some ⟨wx.heap.size, 0, none⟩) 12 (encB (bestV ts))) := by
            have := hBv.out
            rw [List.take_of_length_le (by rw [HL.out]; omega)] at this
            exact ⟨by simp [encB, bestV_len], fun _ => ⟨_, 0, rfl, fun k u hu => by rw [Nat.zero_add, this.cell]; simpa using hu⟩⟩
          have hE9 := Lib.hid hE
          have hSc9 := Lib.hid hSc.out
          clear hE hBv
          go_wp2_with fail
          refine (implEV_any A j c ts bd (some ⟨wx.heap.size, 0, none⟩) 12 12 (bestV ts) _ hm hSc9.out (by unfold maxLen; omega) hSv.out).mono ?_
          rintro e w9 ⟨rfl, hE99⟩
          have hfin := false_best HV.out
          rw [hfb.out] at hfin
          have HFIN := Lib.hid hfin
          have hEE9 := Lib.hid (hE9.out.trans hE99)
          clear hfin hE99
          go_wp2
          go_ret
          exact ⟨ret_b (by simpa using HFIN.out), hEE9.out⟩
  · have hf : cvB ts bd = false := by simpa using hv
    have HV := Lib.hid hf
    have hff : fb = false := by rw [← hfb.out]; unfold cfB; rw [hf]; rfl
    subst hff
    clear hv hf
    go_wp2_with fail
    refine wp_region_ext_lit (by kernel_rfl) (by kernel_rfl) ?_
    repeat (go_big_quiet_step (first
      | (go_at_call 38; exact ext_call (calls_val (specCF_any A n c ts bd _ hm (hS2.out.ext (ExtBy.ext _))) (congrArg Value.bool hfb.out)))
      | (go_at_call 39; exact ext_call (calls_val (implTC_any A n c ts bd _ hm (hS2.out.ext (ExtBy.ext _))) (congrArg (Value.int .i64) htb.out)))
      | (go_at_call 40; exact ext_call (calls_val (specTC_any A n c ts bd _ hm (hS2.out.ext (ExtBy.ext _))) (congrArg (Value.int .i64) htb.out)))
      | (go_at_call 41; exact ext_call (calls_val (implCV_any A n c ts bd _ hm (hS2.out.ext (ExtBy.ext _))) (congrArg Value.bool HV.out)))))
    refine wpQuiet_nil ?_
    intro _ hw'
    obtain ⟨⟨w3, hE3⟩, hw''⟩ := hw'
    subst hw''
    rename_i wx
    have hE3' : Ext w2 wx := hE3
    have HEW := Lib.hid (HEE.out.trans hE3')
    have KB3 := K2.out.ext hE3'
    have KS3 := Lib.hid (hS2.out.ext hE3')
    clear c0 c1
    have c0 : ∀ p : ExtBy wx, p.to.cell? ⟨w1.heap.size, 0, none⟩ = some (.slice A n c) := fun p => p.cell (KB3.cell 0)
    have c1 : ∀ p : ExtBy wx, p.to.cell? ⟨w1.heap.size, 1, none⟩ = some (.int .i64 bd) := fun p => p.cell (KB3.cell 1)
    clear hE3 hE3' K2 hS2 HEE KB3
    go_wp2_with fail
    refine wp_region_ext_lit (by kernel_rfl) (by kernel_rfl) ?_
    repeat (go_big_quiet_step (first
      | (go_at_call 38; exact ext_call (calls_val (specCF_any A n c ts bd _ hm (KS3.out.ext (ExtBy.ext _))) (congrArg Value.bool hfb.out)))
      | (go_at_call 39; exact ext_call (calls_val (implTC_any A n c ts bd _ hm (KS3.out.ext (ExtBy.ext _))) (congrArg (Value.int .i64) htb.out)))
      | (go_at_call 40; exact ext_call (calls_val (specTC_any A n c ts bd _ hm (KS3.out.ext (ExtBy.ext _))) (congrArg (Value.int .i64) htb.out)))
      | (go_at_call 41; exact ext_call (calls_val (implCV_any A n c ts bd _ hm (KS3.out.ext (ExtBy.ext _))) (congrArg Value.bool HV.out)))))
    refine wpQuiet_nil ?_
    intro _ hw'
    obtain ⟨⟨w4, hE4⟩, hw''⟩ := hw'
    subst hw''
    rename_i wy
    have hE4' : Ext wx wy := hE4
    have HEY := Lib.hid (HEW.out.trans hE4')
    clear c0 c1 hE4 hE4' HEW
    go_wp2
    go_ret
    exact ⟨rfl, HEY.out⟩

theorem own : ownKnob Try.prog.godebug = none := by kernel_rfl
theorem laidOut : laidOutB Try.prog = true := by kernel_rfl

set_option maxRecDepth 100000 in
theorem lifted (os : Os) (started : os.Started) (H : Type) (enc : TypeId × Value → H) :
    ReturnsInHanded {} Try.checked os 7 .any (Rows.fnConstraintFalseSpec.pre6 enc Try.prog Try.f7 Rows.fnConstraintFalseRow.domain false) (Rows.fnConstraintFalseSpec.post enc Try.prog Try.f7 false true false false) := by
  refine returnsInHanded_of_change (C := Try.checked) own started (by kernel_rfl) Try.func7
    (ChangeSpec.witness6 (enc := enc) (C := Try.checked) false ⟨#[], #[.slice none 0 0], []⟩ 8 (by kernel_rfl) (by kernel_rfl) (by kernel_rfl) (by kernel_rfl)) ?_
  intro W base args ds gs before hval0 hW hcnd _
  have hval : ∀ (j : Nat) t v, Try.f7.params[j]? = some t → args[j]? = some v → Value.okWide Try.prog W .any base t v := hval0
  have hW' := hW
  obtain ⟨p, q, hA0, hV, rfl, hfz, hnd⟩ := hW
  have hA : DataW.TrodAll enc Try.prog W 0 (fun _ => true) true Try.f7.params.toList args.toList ds p := hA0
  rw [Try.params7] at hA hval
  obtain ⟨v0, vs0, d0, ds0, p0, q0, hargs, rfl, rfl, h0, r0⟩ := trodAll_cons hA
  obtain ⟨rfl, rfl, rfl⟩ := trodAll_nil r0
  obtain rfl : args = #[v0] := by cases args; simp_all
  obtain ⟨rfl, rfl⟩ := trodVars_none hV
  have k0 := h0
  have lt0 : ∀ x ∈ p0, x.block < W.heap.size := by obtain ⟨m, hm⟩ := k0; exact DataW.trod_lt m _ _ _ hm
  obtain ⟨A0, n0, cap0, zs0, rfl, hn0, hc0, hs0, hb0⟩ := arg_bytes (hval 0 52 v0 rfl rfl) h0
  clear hA0 hval0
  refine (walk A0 n0 cap0 zs0 W hn0 hc0 hs0 hb0).mono fun e W' ⟨he, ext⟩ => ?_
  subst he
  have bel := ext.below
  exact ⟨_, rfl, _, _, _, [], _, [], hW', trodAll_mk1 (shut_bool Try.underlying4 _), (trodAll_cons_mk (Below.trod laidOut (by kernel_rfl) (of_decide_eq_true (by kernel_rfl)) k0 bel lt0) trodAll_mk0), rfl, bel.frame _, fun h => by cases h⟩

theorem over : Rows.fnConstraintFalseRow.holds Try.pinned (OpenSpec.ofChange Rows.fnConstraintFalseSpec) :=
  OpenClaim.holds_of_wide 7 Try.f7 rfl rfl rfl rfl rfl rfl rfl ⟨rfl, rfl, rfl, rfl, rfl⟩ rfl rfl rfl rfl rfl (by kernel_rfl) Try.func7 (by kernel_rfl)
    (of_decide_eq_true (by kernel_rfl)) (by unfold Func.isWrapper; first | (rw [if_pos (by decide +kernel)]; kernel_rfl) | (rw [if_neg (by decide +kernel)]; exact ⟨rfl, rfl⟩))
    (fun os started H enc _ => lifted os started H enc)

theorem proved : Rows.FnConstraintFalseSaid := over

end Go.Proofs.Ytpkglggomiklcaa.constraintFalse
