/- laws.FnExactConstraintValid: for every constraint, the program's ConstraintValid answers as the reference's and leaves its argument alone. No condition. -/
import Derived.Test.YtlpbffidonpcaaaCVs
import Derived.Test.YtlpbffidonpcaaaSzT
import Derived.Test.YtlpbffidonpcaaaToT
import Derived.Test.YtlpbffidonpcaaaEqT
import Derived.Test.YtlpbffidonpcaaaOpen
namespace Go.Proofs.Ytlpbffidonpcaaa.exactCV
open Go.ChangeShapes Go.WideShapes Go.ChangeAt Go.RowKit

set_option maxHeartbeats 2000000 in
theorem walk (A : Option Addr) (n cap : Nat) (ts : List Tm) (bd : Int) (w : World) (hn : n ≤ maxLen) (h : Seg w 2 A n (encT ts)) :
    Calls Try.prog 8 #[.agg #[.slice A n cap, .int .i64 bd]] w fun e w' => e = .returned (.bool true) ∧ Ext w w' := by
  by_cases hbig : 1048576 < n
  · have hs : Hid (szB n 1048576 = -1) := by unfold szB; exact if_pos (by omega)
    go_enter Try.func8, Try.ntmps8
    go_wp2_with fail
    refine (szConstraint_any A n cap bd _ _ hn (by omega) (by omega)).mono ?_
    rintro e w1 ⟨rfl, hE⟩
    rw [hs.out]
    clear h
    go_wp2
    go_ret
    exact ⟨rfl, ((Ext.refl _).alloc _).trans hE⟩
  · have hs : Hid (0 ≤ szB n 1048576 ∧ szB n 1048576 ≤ 1048576) := by unfold szB Hid; split <;> omega
    have hn1 : n ≤ 1048576 := by omega
    go_enter Try.func8, Try.ntmps8
    go_wp2_with fail
    refine (szConstraint_any A n cap bd _ _ hn (by omega) (by omega)).mono ?_
    rintro e w1 ⟨rfl, hE1⟩
    have hs0 := hs.out.1
    generalize szB n 1048576 = left at hs0
    have B := Blk.of1 hE1
    have c0 := B.cell 0
    have c1 := B.cell 1
    have h1 := (h.alloc _).ext hE1
    go_wp2_with fail
    refine (toConstraint_any A n cap ts bd _ hn1 h1).mono ?_
    rintro e w2 ⟨A2, n2, cap2, rfl, hl2, hG2, hE2⟩
    go_wp2_with fail
    have hn2 : n2 ≤ maxLen := by rw [← hl2, h.lenT]; exact hn
    refine (specCV_any A2 n2 cap2 ts bd _ hn2 hG2.seg).mono ?_
    rintro e w3 ⟨rfl, hE3⟩
    have hE13 := (hE2.trans hE3)
    have B3 := B.ext hE13
    have c0' := B3.cell 0
    have c1' := B3.cell 1
    clear c0 c1
    go_wp2_with fail
    refine (toConstraint_any A n cap ts bd _ hn1 (h1.ext hE13)).mono ?_
    rintro e w4 ⟨A4, n4, cap4, rfl, hl4, hG4, hE4⟩
    have B4 := B3.ext hE4
    have c0 := B4.cell 0
    have c1 := B4.cell 1
    clear c0' c1'
    have hn4 : n4 ≤ maxLen := by rw [← hl4, h.lenT]; exact hn
    go_wp2_with fail
    refine (implCV_any A4 n4 cap4 ts bd _ hn4 (hG4.seg.alloc _)).mono ?_
    rintro e w5 ⟨rfl, hE5⟩
    have X5 := Blk.of1 hE5
    have x0 := X5.cell 0
    have x1 := X5.cell 1
    have B5 := (B4.alloc _).ext hE5
    have c0' := B5.cell 0
    have c1' := B5.cell 1
    have s5 := (hG4.seg.alloc _).ext hE5
    have h5 := ((h1.ext (hE13.trans hE4)).alloc _).ext hE5
    have E5 : Ext w w5 := (((((Ext.refl w).alloc _).trans hE1).trans (hE13.trans hE4)).alloc _).trans hE5
    clear c0 c1 B B3 B4 hE1 hE2 hE3 hE4 hE5 hE13 hG2 hG4 h1 h X5 B5
    have e1 : Ext w5 w5.drew := (Ext.refl _).drew
    have KS : Hid (∀ w', Ext w5 w' → (w'.cell? ⟨w.heap.size, 0, none⟩ = some (.slice A n cap) ∧ w'.cell? ⟨w.heap.size, 1, none⟩ = some (.int .i64 bd) ∧ w'.cell? ⟨w4.heap.size, 0, none⟩ = some (.slice A4 n4 cap4) ∧ w'.cell? ⟨w4.heap.size, 1, none⟩ = some (.int .i64 bd))) :=
      fun w' e => ⟨e.cell c0', e.cell c1', e.cell x0, e.cell x1⟩
    have hc : cEq ts ts bd bd = true := by simp [cEq]
    go_wp2_with fail
    go_region_held3 (fun w' => w'.cell? ⟨w.heap.size, 0, none⟩ = some (.slice A n cap) ∧ w'.cell? ⟨w.heap.size, 1, none⟩ = some (.int .i64 bd) ∧ w'.cell? ⟨w4.heap.size, 0, none⟩ = some (.slice A4 n4 cap4) ∧ w'.cell? ⟨w4.heap.size, 1, none⟩ = some (.int .i64 bd))
      ((refine KS.out _ ?_; first | exact e1 | exact e1.trans hE6 | exact (e1.trans hE6).trans hE7))
      ((first
        | (go_at_call 30; refine (toConstraint_any A n cap ts bd _ hn1 (h5.ext e1)).mono ?_; rintro e w6 ⟨A6, n6, cap6, rfl, hl6, hG6, hE6⟩)
        | (go_at_call 21; refine (eqConstraint_any A4 A6 n4 n6 cap4 cap6 ts ts bd bd _ hn4 (by rw [← hl6, hl4]; exact hn4) (s5.ext (e1.trans hE6)) hG6.seg).mono ?_; rintro e w7 ⟨rfl, hE7⟩)))
    go_wp2
    go_ret
    exact ⟨rfl, E5.trans ((e1.trans hE6).trans hE7)⟩

theorem own : ownKnob Try.prog.godebug = none := by kernel_rfl
theorem laidOut : laidOutB Try.prog = true := by kernel_rfl

set_option maxRecDepth 100000 in
theorem lifted (os : Os) (started : os.Started) (H : Type) (enc : TypeId × Value → H) :
    ReturnsInHanded {} Try.checked os 8 .any (Rows.fnExactConstraintValidSpec.pre6 enc Try.prog Try.f8 Rows.fnExactConstraintValidRow.domain false) (Rows.fnExactConstraintValidSpec.post enc Try.prog Try.f8 false true false false) := by
  refine returnsInHanded_of_change (C := Try.checked) own started (by kernel_rfl) Try.func8
    (ChangeSpec.witness6 (enc := enc) (C := Try.checked) false ⟨#[], #[.agg #[.slice none 0 0, .int .i64 0]], []⟩ 8 (by kernel_rfl) (by kernel_rfl) (by kernel_rfl) (by kernel_rfl)) ?_
  intro W base args ds gs before hval0 hW hcnd _
  have hval : ∀ (j : Nat) t v, Try.f8.params[j]? = some t → args[j]? = some v → Value.okWide Try.prog W .any base t v := hval0
  have hW' := hW
  obtain ⟨p, q, hA0, hV, rfl, hfz, hnd⟩ := hW
  have hA : DataW.TrodAll enc Try.prog W 0 (fun _ => true) true Try.f8.params.toList args.toList ds p := hA0
  rw [Try.params8] at hA hval
  obtain ⟨v0, vs0, d0, ds0, p0, q0, hargs, rfl, rfl, h0, r0⟩ := trodAll_cons hA
  obtain ⟨rfl, rfl, rfl⟩ := trodAll_nil r0
  obtain rfl : args = #[v0] := by cases args; simp_all
  obtain ⟨rfl, rfl⟩ := trodVars_none hV
  have k0 := h0
  have lt0 : ∀ x ∈ p0, x.block < W.heap.size := by obtain ⟨m, hm⟩ := k0; exact DataW.trod_lt m _ _ _ hm
  obtain ⟨A0, n0, cap0, zs0, bd0, rfl, hn0, hs0⟩ := arg_constr (hval 0 41 v0 rfl rfl) h0
  clear hA0 hval0
  refine (walk A0 n0 cap0 zs0 bd0 W hn0 hs0).mono fun e W' ⟨he, ext⟩ => ?_
  subst he
  have bel := ext.below
  exact ⟨_, rfl, _, _, _, [], _, [], hW', trodAll_mk1 (shut_bool Try.underlying4 _), (trodAll_cons_mk (Below.trod laidOut (by kernel_rfl) (of_decide_eq_true (by kernel_rfl)) k0 bel lt0) trodAll_mk0), rfl, bel.frame _, fun h => by cases h⟩

theorem over : Rows.fnExactConstraintValidRow.holds Try.pinned (OpenSpec.ofChange Rows.fnExactConstraintValidSpec) :=
  OpenClaim.holds_of_wide 8 Try.f8 rfl rfl rfl rfl rfl rfl rfl ⟨rfl, rfl, rfl, rfl, rfl⟩ rfl rfl rfl rfl rfl (by kernel_rfl) Try.func8 (by kernel_rfl)
    (of_decide_eq_true (by kernel_rfl)) (by unfold Func.isWrapper; first | (rw [if_pos (by decide +kernel)]; kernel_rfl) | (rw [if_neg (by decide +kernel)]; exact ⟨rfl, rfl⟩))
    (fun os started H enc _ => lifted os started H enc)

theorem proved : Rows.FnExactConstraintValidSaid := over

end Go.Proofs.Ytlpbffidonpcaaa.exactCV
