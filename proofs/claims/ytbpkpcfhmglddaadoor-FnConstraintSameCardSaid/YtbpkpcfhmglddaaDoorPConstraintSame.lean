/- laws.FnConstraintSame (a tied card): for all bytes, the program's ConstraintSame of the two drawn constraints answers as the reference's, in either order, each constraint is the same as itself, and where both have texts they are the same exactly if their texts are equal. Conditions: the library's listed tables hold at the start what the program's text lays (the row's cell 'laid', tied by the card). -/
import Derived.Test.YtbpkpcfhmglddaaDoorRdCS
import Derived.Test.YtbpkpcfhmglddaaDoorFm
import Derived.Test.YtbpkpcfhmglddaaDoorSameC
import Derived.Test.YtbpkpcfhmglddaaDoorOpenY
import Derived.Test.YtbpkpcfhmglddaaDoorCards
import Derived.Test.YtbpkpcfhmglddaaDoorTie
import Derived.WalkKit
import Derived.ProofKit
import Derived.OpenShut
import Derived.Deep.DeepHandedRow
import Derived.Lib.LaidTab
import Derived.SevenTiedAt
namespace Go.Proofs.YtbpkpcfhmglddaaDoor.constraintSame
open Go.ChangeShapes Go.WideShapes Go.ChangeAt Go.RowKit
set_option linter.unusedVariables false

theorem cEq_comm (ts us : List Tm) (b b' : Int) : cEq us ts b' b = cEq ts us b b' := by
  unfold cEq; rw [decide_eq_decide]
  exact ⟨fun h => ⟨h.1.symm, h.2.symm⟩, fun h => ⟨h.1.symm, h.2.symm⟩⟩

set_option maxRecDepth 100000 in
set_option maxHeartbeats 4000000 in
theorem walk (A0 : Option Addr) (n0 cap0 : Nat) (zs0 : List Int) (w : World) (hn0 : n0 ≤ maxLen) (hc0 : n0 ≤ cap0) (hs0 : Seg w 1 A0 n0 (encY zs0)) (hb0 : bytesB zs0) (ht : Tab w) :
    Calls Tryd.prog 3 #[.slice A0 n0 cap0] w fun e w' => e = .returned (.bool true) ∧ Ext w w' := by
  have HT := Lib.hid ht
  clear ht
  by_cases hbig : 1048576 < n0
  · clear hs0
    go_enter Tryd.func3, Tryd.ntmps3
    go_wp2
    go_ret
    exact ⟨rfl, Ext.refl _⟩
  go_enter Tryd.func3, Tryd.ntmps3
  go_wp2_with fail
  refine (drawCS_any A0 n0 cap0 zs0 _ hn0 hc0 hs0 hb0).mono ?_
  rintro e w1 ⟨A, n, c, ts, bd, B, m, d, us, bd', rfl, hl, hn, hl', hm, hG, hG', hE1⟩
  have hnm : n ≤ maxLen := by unfold maxLen; omega
  have hmm : m ≤ maxLen := by unfold maxLen; omega
  have HG := Lib.hid hG.seg
  have HG' := Lib.hid hG'.seg
  have HE1 := Lib.hid hE1
  have HX : Hid (Ext w1 ((w1.alloc (.cells #[.slice A n c, .int .i64 bd] 25)).alloc (.cells #[.slice B m d, .int .i64 bd'] 25))) := ((Ext.refl _).alloc _).alloc _
  clear hl hl' hG hG' hE1
  obtain ⟨q, hq⟩ : ∃ q, cEq ts us bd bd' = q := ⟨_, rfl⟩
  have HQ := Lib.hid hq
  have HQ2 : Hid (cEq us ts bd' bd = q) := (cEq_comm ts us bd bd').trans hq
  clear hq
  go_wp2_with fail
  refine (calls_val (implCS2 A n c ts bd B m d us bd' _ hnm (HG.out.ext HX.out) hmm (HG'.out.ext HX.out)) (congrArg Value.bool HQ.out)).mono ?_
  rintro e w2 ⟨rfl, hE2⟩
  obtain ⟨B0, B1⟩ := Blk.of2 hE2
  have HB0 := Lib.hid B0
  have HB1 := Lib.hid B1
  have H2 := Lib.hid (HX.out.trans hE2)
  clear B0 B1 hE2
  have b0 := HB0.out.cell 0
  have b1 := HB0.out.cell 1
  have d0 := HB1.out.cell 0
  have d1 := HB1.out.cell 1
  go_wp2_with fail
  refine (calls_val (specCS2 A n c ts bd B m d us bd' _ hnm (HG.out.ext H2.out) hmm (HG'.out.ext H2.out)) (congrArg Value.bool HQ.out)).mono ?_
  rintro e w3 ⟨rfl, hE3⟩
  have H3 := Lib.hid (H2.out.trans hE3)
  have HB03 := Lib.hid (HB0.out.ext hE3)
  have HB13 := Lib.hid (HB1.out.ext hE3)
  clear b0 b1 d0 d1 hE3 HB0 HB1
  have b0 := HB03.out.cell 0
  have b1 := HB03.out.cell 1
  have d0 := HB13.out.cell 0
  have d1 := HB13.out.cell 1
  go_wp2_with fail
  refine (calls_val (implCS2 B m d us bd' A n c ts bd _ hmm (HG'.out.ext H3.out) hnm (HG.out.ext H3.out)) (congrArg Value.bool HQ2.out)).mono ?_
  rintro e w4 ⟨rfl, hE4⟩
  have H4 := Lib.hid (H3.out.trans hE4)
  have HB04 := Lib.hid (HB03.out.ext hE4)
  have HB14 := Lib.hid (HB13.out.ext hE4)
  clear b0 b1 d0 d1 hE4 HB03 HB13
  have b0 := HB04.out.cell 0
  have b1 := HB04.out.cell 1
  go_wp2_with fail
  refine (calls_val (implCS2 A n c ts bd A n c ts bd _ hnm (HG.out.ext H4.out) hnm (HG.out.ext H4.out)) (congrArg Value.bool (cEq_self ts bd))).mono ?_
  rintro e w5 ⟨rfl, hE5⟩
  have H5 := Lib.hid (H4.out.trans hE5)
  have HB05 := Lib.hid (HB04.out.ext hE5)
  have HB15 := Lib.hid (HB14.out.ext hE5)
  clear b0 b1 hE5 HB04 HB14
  have b0 := HB05.out.cell 0
  have b1 := HB05.out.cell 1
  obtain ⟨s, hs⟩ : ∃ s, bs (fmX ts bd) = s := ⟨_, rfl⟩
  obtain ⟨t, ht⟩ : ∃ t, bs (fmX us bd') = t := ⟨_, rfl⟩
  have HS := Lib.hid hs
  have HTT := Lib.hid ht
  have hlaw : Hid ((s.toList.isEmpty || t.toList.isEmpty || q == (s.toList == t.toList)) = true) := by
    have e1 : s.toList = fmX ts bd := by rw [← hs]; unfold bs; simp
    have e2 : t.toList = fmX us bd' := by rw [← ht]; unfold bs; simp
    unfold Hid
    rw [e1, e2]
    rcases fmX_law ts us bd bd' with h | h | h
    · rw [h]; rfl
    · rw [h]; simp
    · rw [HQ.out] at h
      have : (q == (fmX ts bd == fmX us bd')) = true := by
        rw [h]
        by_cases e : fmX ts bd = fmX us bd' <;> simp [e]
      rw [this, Bool.or_true]
  clear hs ht
  go_wp2_with fail
  refine (calls_val (format_any A n c ts bd _ hnm (HG.out.ext H5.out) (HT.out.ext (HE1.out.trans H5.out))) (congrArg Value.string HS.out)).mono ?_
  rintro e w6 ⟨rfl, hE6⟩
  have H6 := Lib.hid (H5.out.trans hE6)
  have HB16 := Lib.hid (HB15.out.ext hE6)
  clear b0 b1 hE6 HB05 HB15
  have d0 := HB16.out.cell 0
  have d1 := HB16.out.cell 1
  go_wp2_with fail
  refine (calls_val (format_any B m d us bd' _ hmm (HG'.out.ext H6.out) (HT.out.ext (HE1.out.trans H6.out))) (congrArg Value.string HTT.out)).mono ?_
  rintro e w7 ⟨rfl, hE7⟩
  have HE := Lib.hid (HE1.out.trans (H6.out.trans hE7))
  clear d0 d1 hE7 HB16
  go_wp2
  all_goals go_ret
  all_goals first | exact ⟨rfl, HE.out⟩ | exact ⟨ret_b hlaw.out, HE.out⟩

theorem own : ownKnob Tryd.prog.godebug = none := by kernel_rfl
theorem laidOut : laidOutB Tryd.prog = true := by kernel_rfl
theorem gPow : Tryd.prog.globalNamed "internal/strconv.uint64pow10" = some 0 := by kernel_rfl
theorem tPow : (Tryd.prog.globals[0]?).map (·.type) = some 59 := by kernel_rfl
theorem cPow : Tryd.prog.cellsOf 59 = 20 := by kernel_rfl
theorem cU64 : Tryd.prog.cellsOf 53 = 1 := by kernel_rfl

/-- what the row's list gives: the table of powers of ten -/
theorem table {W : World} (h : laidMetH Tryd.prog Rows.fnConstraintSameRow.laid W) : Tab W := by
  have h' : laidMet Tryd.prog Rows.fnConstraintSameRow.laid W := h
  obtain ⟨ps, ⟨g0, t0, cs0, f0, p0, q0, hg0, ht0, hv0, hd0, ⟨g1, t1, cs1, f1, p1, q1, hg1, ht1, hv1, hd1, ⟨g2, t2, cs2, f2, p2, q2, hg2, ht2, hv2, hd2, _, _⟩, _⟩, _⟩, _, _⟩ := h'
  obtain rfl := Option.some.inj (gPow.symm.trans hg2)
  obtain rfl := Option.some.inj (tPow.symm.trans ht2)
  have hd : DataW.trod _ Tryd.prog W _ _ _ f2 59 cs2.toList = some (Lib.tabData .u64 Lib.pow10Tab, p2) := hd2
  unfold Tab Lib.TabIs
  rw [hv2, ← Lib.cells_of_tab Tryd.underlying59 Tryd.underlying53 cU64 cPow hd]

theorem contract (H : Type) (enc : TypeId × Value → H) (W : World) (base : Nat) (args : Array Value) (ds gs : List (DataW H)) (before : List MemPlace)
    (hval : ∀ (j : Nat) t v, Tryd.f3.params[j]? = some t → args[j]? = some v → Value.okWide Tryd.prog W .any base t v)
    (hW : DataW.Whole enc Tryd.prog Tryd.f3.params.toList Rows.fnConstraintSameSpec.vars false W args.toList ds gs before) (hL : laidMetH Tryd.prog Rows.fnConstraintSameRow.laid W) :
    Calls Tryd.prog 3 args W fun e W' => ∃ v, e = .returned v ∧ Rows.fnConstraintSameSpec.post enc Tryd.prog Tryd.f3 false true false false W args v W' := by
  have hW' := hW
  obtain ⟨p, q, hA0, hV, rfl, hfz, hnd⟩ := hW
  have hA : DataW.TrodAll enc Tryd.prog W 0 (fun _ => true) true Tryd.f3.params.toList args.toList ds p := hA0
  rw [Tryd.params3] at hA hval
  obtain ⟨v0, vs0, d0, ds0, p0, q0, hargs, rfl, rfl, h0, r0⟩ := trodAll_cons hA
  obtain ⟨rfl, rfl, rfl⟩ := trodAll_nil r0
  obtain rfl : args = #[v0] := by cases args; simp_all
  obtain ⟨rfl, rfl⟩ := trodVars_none hV
  have k0 := h0
  have lt0 : ∀ x ∈ p0, x.block < W.heap.size := by obtain ⟨m, hm⟩ := k0; exact DataW.trod_lt m _ _ _ hm
  obtain ⟨A0, n0, cap0, zs0, rfl, hn0, hc0, hs0, hb0⟩ := arg_bytes (hval 0 22 v0 rfl rfl) h0
  clear hA0
  refine (walk A0 n0 cap0 zs0 W hn0 hc0 hs0 hb0 (table hL)).mono fun e W' ⟨he, ext⟩ => ?_
  subst he
  have bel := ext.below
  exact ⟨_, rfl, _, _, _, [], _, [], hW', trodAll_mk1 (shut_bool Tryd.underlying4 _), (trodAll_cons_mk (Below.trod laidOut (by kernel_rfl) (of_decide_eq_true (by kernel_rfl)) k0 bel lt0) trodAll_mk0), rfl, bel.frame _, fun h => by cases h⟩

def putTab (cs : Array Value) : Obj → Obj
  | .cells _ t frozen => .cells cs t frozen
  | o => o
/-- a world for the witness: the settled one, the listed tables holding what their initialisers lay -/
noncomputable def laidWorld (os : Os) : World :=
  { World.holding Tryd.prog os ⟨#[], #[], []⟩ with heap := (((World.holding Tryd.prog os ⟨#[], #[], []⟩).heap.modify 0 (putTab #[.int .u64 1, .int .u64 10, .int .u64 100, .int .u64 1000, .int .u64 10000, .int .u64 100000, .int .u64 1000000, .int .u64 10000000, .int .u64 100000000, .int .u64 1000000000, .int .u64 10000000000, .int .u64 100000000000, .int .u64 1000000000000, .int .u64 10000000000000, .int .u64 100000000000000, .int .u64 1000000000000000, .int .u64 10000000000000000, .int .u64 100000000000000000, .int .u64 1000000000000000000, .int .u64 10000000000000000000])).modify 1 (putTab #[.int .u8 0, .int .u8 1, .int .u8 28, .int .u8 2, .int .u8 29, .int .u8 14, .int .u8 24, .int .u8 3, .int .u8 30, .int .u8 22, .int .u8 20, .int .u8 15, .int .u8 25, .int .u8 17, .int .u8 4, .int .u8 8, .int .u8 31, .int .u8 27, .int .u8 13, .int .u8 23, .int .u8 21, .int .u8 19, .int .u8 16, .int .u8 7, .int .u8 26, .int .u8 12, .int .u8 18, .int .u8 6, .int .u8 11, .int .u8 5, .int .u8 10, .int .u8 9])).modify 2 (putTab #[.int .u8 0, .int .u8 1, .int .u8 56, .int .u8 2, .int .u8 57, .int .u8 49, .int .u8 28, .int .u8 3, .int .u8 61, .int .u8 58, .int .u8 42, .int .u8 50, .int .u8 38, .int .u8 29, .int .u8 17, .int .u8 4, .int .u8 62, .int .u8 47, .int .u8 59, .int .u8 36, .int .u8 45, .int .u8 43, .int .u8 51, .int .u8 22, .int .u8 53, .int .u8 39, .int .u8 33, .int .u8 30, .int .u8 24, .int .u8 18, .int .u8 12, .int .u8 5, .int .u8 63, .int .u8 55, .int .u8 48, .int .u8 27, .int .u8 60, .int .u8 41, .int .u8 37, .int .u8 16, .int .u8 46, .int .u8 35, .int .u8 44, .int .u8 21, .int .u8 52, .int .u8 32, .int .u8 23, .int .u8 11, .int .u8 54, .int .u8 26, .int .u8 40, .int .u8 15, .int .u8 34, .int .u8 20, .int .u8 31, .int .u8 10, .int .u8 25, .int .u8 14, .int .u8 19, .int .u8 9, .int .u8 13, .int .u8 8, .int .u8 7, .int .u8 6]) }
theorem laid_met (os : Os) : laidMet Tryd.prog Rows.fnConstraintSameRow.laid ((laidWorld os).forCall (fun _ _ => 0) ⟨#[], #[.slice none 0 0], []⟩).memory :=
  laidMet_of_run' 8 (by kernel_rfl) (by kernel_rfl)
theorem reads (os : Os) {H : Type} (enc : TypeId × Value → H) : ∃ places, DataW.whole enc Tryd.prog ((laidWorld os).forCall (fun _ _ => 0) ⟨#[], #[.slice none 0 0], []⟩).memory Tryd.f3.params.toList Rows.fnConstraintSameSpec.vars false #[Value.slice none 0 0].toList 8 = some ([.nil], [], places) :=
  ⟨[], by kernel_rfl⟩

set_option maxRecDepth 100000 in
theorem lifted (os : Os) (started : os.Started) (H : Type) (enc : TypeId × Value → H) (F : Stop.Interp) :
    ReturnsInHanded {} Tryd.checked os 3 .any ((OpenSpec.ofChange Rows.fnConstraintSameSpec).preRow enc Tryd.prog Tryd.f3 Rows.fnConstraintSameRow.domain false Rows.fnConstraintSameRow.laid) (((OpenSpec.ofChange Rows.fnConstraintSameSpec).at F).post enc Tryd.prog Tryd.f3 false true false false) := by
  obtain ⟨places, hx⟩ := reads os enc
  refine returnsInHanded_of_row (C := Tryd.checked) (s := OpenSpec.ofChange Rows.fnConstraintSameSpec) own started (by kernel_rfl) Tryd.func3
    (witness_row_at (enc := enc) (C := Tryd.checked) false (laidWorld os) #[.slice none 0 0] rfl (by kernel_rfl) (by kernel_rfl) (by kernel_rfl)
      (OpenSpec.preRow_of_cond 8 hx (by kernel_rfl) (fun k hk => by cases hk) (by kernel_rfl) (laid_met os))) ?_
  intro W base args ds gs before hval hW _ _ _ hL _ _
  exact contract H enc W base args ds gs before hval hW hL

set_option maxHeartbeats 4000000 in
theorem said : Rows.FnConstraintSameSaid :=
  OpenClaim.holds_of_cond 3 Tryd.f3 rfl rfl rfl rfl rfl rfl rfl ⟨rfl, rfl, rfl, rfl, rfl⟩ rfl rfl rfl rfl rfl (by kernel_rfl) Tryd.func3 (by kernel_rfl)
    (of_decide_eq_true (by kernel_rfl)) (by unfold Func.isWrapper; first | (rw [if_pos (by decide +kernel)]; kernel_rfl) | (rw [if_neg (by decide +kernel)]; exact ⟨rfl, rfl⟩))
    (fun os started H enc _ F => by rw [OpenClaim.pre_eq_preRow]; exact lifted os started H enc F)

theorem plain (f : FuncId) (fn : Func) (hf : Tryd.pinned.checked.prog.funcNamed "loop.example/cuttingplanes/laws.FnConstraintSame" = some f) (hfn : Tryd.pinned.checked.prog.funcs[f]? = some fn) :
    false = Tryd.pinned.checked.prog.looks [] ∧ ∀ (j : Nat) t, fn.params[j]? = some t → Tryd.pinned.checked.prog.wantsStandIn t = false := by
  obtain rfl : f = 3 := Option.some.inj ((show Tryd.prog.funcNamed "loop.example/cuttingplanes/laws.FnConstraintSame" = some 3 by kernel_rfl).symm.trans hf) |>.symm
  obtain rfl : fn = Tryd.f3 := (Option.some.inj (Tryd.func3.symm.trans hfn)).symm
  refine ⟨by kernel_rfl, fun j t ht => ?_⟩
  rw [Tryd.params3] at ht
  obtain rfl : t = 22 := by simpa using Array.mem_of_getElem? ht
  exact (show Tryd.prog.wantsStandIn 22 = false by kernel_rfl)

/-- the tied card -/
theorem card : Rows.FnConstraintSameCardSaid :=
  Claim7.holds_tied_plain_at .later [] _ _ _ _ said (fun _ h => by cases h) (by kernel_rfl) (fun _ h => by cases h) fnConstraintSame_row_tie rfl ⟨rfl, rfl⟩ (by kernel_rfl) rfl plain (by kernel_rfl)
end Go.Proofs.YtbpkpcfhmglddaaDoor.constraintSame
