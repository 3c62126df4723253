/- laws.FnSatisfiesAll: for all bytes, the program's SatisfiesAll answers as the reference's, and values satisfy two problems exactly if they satisfy their concatenation. No condition. -/
import Derived.Test.YtihbgajlnbchlaaRdL
import Derived.Test.YtihbgajlnbchlaaPlG
import Derived.Test.YtihbgajlnbchlaaSameC
import Derived.Test.YtihbgajlnbchlaaSats
import Derived.Test.YtihbgajlnbchlaaAppC
import Derived.Test.YtihbgajlnbchlaaOpenY
import Derived.Test.YtihbgajlnbchlaaFacts
namespace Go.Proofs.Ytihbgajlnbchlaa.satisfiesAll
open Go.ChangeShapes Go.WideShapes Go.ChangeAt Go.RowKit
set_option linter.unusedVariables false

set_option maxRecDepth 100000 in
set_option maxHeartbeats 4000000 in
theorem walk (A0 : Option Addr) (n0 cap0 : Nat) (zs0 : List Int) (A1 : Option Addr) (n1 cap1 : Nat) (zs1 : List Int) (w : World) (hn0 : n0 ≤ maxLen) (hc0 : n0 ≤ cap0) (hs0 : Seg w 1 A0 n0 (encY zs0)) (hb0 : bytesB zs0) (hn1 : n1 ≤ maxLen) (hc1 : n1 ≤ cap1) (hs1 : Seg w 1 A1 n1 (encY zs1)) (hb1 : bytesB zs1) :
    Calls Try.prog 5 #[.slice A0 n0 cap0, .slice A1 n1 cap1] w fun e w' => e = .returned (.bool true) ∧ Ext w w' := by
  by_cases hbig : 1048576 < n0
  · clear hs0 hs1
    go_enter Try.func5, Try.ntmps5
    go_wp2
    go_ret
    exact ⟨rfl, Ext.refl _⟩
  by_cases hbig1 : 1048576 < n1
  · clear hs0 hs1
    have hb2 : decide ((1048576 : Int) < (n0 : Int)) = false := decide_eq_false (by omega)
    go_enter Try.func5, Try.ntmps5
    go_wp2
    go_ret
    exact ⟨rfl, Ext.refl _⟩
  have hb2 : decide ((1048576 : Int) < (n0 : Int)) = false := decide_eq_false (by omega)
  have hb3 : decide ((1048576 : Int) < (n1 : Int)) = false := decide_eq_false (by omega)
  go_enter Try.func5, Try.ntmps5
  go_wp2_with fail
  refine (drawSA_any A0 n0 cap0 zs0 _ hn0 hc0 hs0 hb0).mono ?_
  rintro e w1 ⟨A1a, n1a, c1a, cs1a, A1b, n1b, c1b, vs1b, rfl, hl1a, hm1a, hl1b, hm1b, hg1a, hg1b, hE1⟩
  have hC1 : Ext w w1 := hE1
  have ze1 := hC1.size
  clear hE1
  have hn1a : n1a ≤ maxLen := by unfold maxLen; omega
  have HL1a := Lib.hid hl1a
  have hG1a := Lib.hid hg1a
  clear hl1a hg1a
  have hn1b : n1b ≤ maxLen := by unfold maxLen; omega
  have HL1b := Lib.hid hl1b
  have hG1b := Lib.hid hg1b
  clear hl1b hg1b
  go_wp2_with fail
  refine (drawSA_any A1 n1 cap1 zs1 _ hn1 hc1 (hs1.ext hC1) hb1).mono ?_
  rintro e w2 ⟨A2a, n2a, c2a, cs2a, A2b, n2b, c2b, vs2b, rfl, hl2a, hm2a, hl2b, hm2b, hg2a, hg2b, hE2⟩
  have hC2 : Ext w1 w2 := hE2
  have ze2 := hC2.size
  clear hE2
  have hn2a : n2a ≤ maxLen := by unfold maxLen; omega
  have HL2a := Lib.hid hl2a
  have hG2a := Lib.hid hg2a
  clear hl2a hg2a
  have hn2b : n2b ≤ maxLen := by unfold maxLen; omega
  have HL2b := Lib.hid hl2b
  have hG2b := Lib.hid hg2b
  clear hl2b hg2b
  obtain ⟨x, hx⟩ : ∃ b, Hid (saB cs1a vs1b = b) := ⟨_, rfl⟩
  obtain ⟨y, hy⟩ : ∃ b, Hid (saB cs2a vs1b = b) := ⟨_, rfl⟩
  have HAP : Hid (saB (cs1a ++ cs2a) vs1b = (x && y)) := by rw [Hid, sa_append vs1b (by rw [HL1a.out, HL2a.out]; omega), hx.out, hy.out]
  cases x
  · rw [Bool.false_and] at HAP
    go_wp2_with fail
    refine (calls_val (implSA_any A1a n1a c1a cs1a A1b n1b c1b vs1b _ hn1a (hG1a.out.ext hC2) hn1b (hG1b.out.seg.ext hC2)) (congrArg Value.bool hx.out)).mono ?_
    rintro e w3 ⟨rfl, hE3⟩
    have hC3 : Ext w2 w3 := hE3
    have ze3 := hC3.size
    clear hE3
    go_wp2_with fail
    refine (calls_val (implSA_any A2a n2a c2a cs2a A1b n1b c1b vs1b _ hn2a (hG2a.out.ext hC3) hn1b (hG1b.out.seg.ext (hC2.trans hC3))) (congrArg Value.bool hy.out)).mono ?_
    rintro e w4 ⟨rfl, hE4⟩
    have hC4 : Ext w3 w4 := hE4
    have ze4 := hC4.size
    clear hE4
    go_wp2_with fail
    refine (calls_val (specSA_any A1a n1a c1a cs1a A1b n1b c1b vs1b _ hn1a (hG1a.out.ext ((hC2.trans hC3).trans hC4)) hn1b (hG1b.out.seg.ext ((hC2.trans hC3).trans hC4))) (congrArg Value.bool hx.out)).mono ?_
    rintro e w5 ⟨rfl, hE5⟩
    have HE5 := Lib.hid ((((hC1.trans hC2).trans hC3).trans hC4).trans hE5)
    have SA1 := Lib.hid ((hG1a.out.ext ((hC2.trans hC3).trans hC4)).ext hE5)
    have SA2 := Lib.hid ((hG2a.out.ext (hC3.trans hC4)).ext hE5)
    have SAV := Lib.hid ((hG1b.out.seg.ext ((hC2.trans hC3).trans hC4)).ext hE5)
    clear hE5
    obtain ⟨i0, hi, hz0, hz1, hz2⟩ := info_parts Try.infoCnL
    have HI := Lib.hid hi
    have HZ0 := Lib.hid hz0
    have HZ1 := Lib.hid hz1
    have HZ2 := Lib.hid hz2
    clear hi hz0 hz1 hz2
    obtain ⟨hsa, hla, hSa, hina⟩ := SA1.out
    obtain ⟨hsb, hlb, hSb, hinb⟩ := SA2.out
    have HINA := Lib.hid hina
    have HINB := Lib.hid hinb
    have HLA := Lib.hid hla
    have HLB := Lib.hid hlb
    have SVA := Lib.hid (hSa.alloc (.cells #[] 25))
    have SVB := Lib.hid hSb
    have OE := own_empty w5 (w5).heap.size 25 2 (Nat.le_refl _)
    clear hina hinb hla hlb hSa hSb
    go_wp2_with (first
      | (at_builtin
         refine wpList_append_segW _ (by first | rfl | go_simp)  (.tmp 41) (.tmp 42) 42 rfl (w5).heap.size 25 i0 _ 2 32 Try.underlying42 HI.out HZ0.out HZ1.out HZ2.out rfl (by omega) (.slice (some ⟨(w5).heap.size, 0, none⟩) 0 0) 0 [] rfl OE A1a n1a c1a (encH hsa cs1a) rfl SVA.out (oneCHl _ _) ?_ ?_ ?_ ?_
         (unfold maxLen; omega)
         omega
         (first | exact Nat.le_refl _ | simp)
         (intro A8 c8 w8 hown8 hg8)
         (simp only [Nat.zero_add, List.nil_append] at hown8 ⊢)
         (have HO8 := Lib.hid hown8)
         (have HE8 : Hid (Ext (w5) w8) := ((Ext.refl (w5)).alloc _).grown hg8 (fun k hk => Nat.le_of_eq (Option.some.inj hk)))
         (have hz8 := HE8.out.size)
         (have SVB8 := Lib.hid (SVB.out.ext HE8.out))
         (clear hown8 hg8 OE SVA))
      | (at_builtin
         refine wpList_append_segW _ (by first | rfl | go_simp)  (.tmp 43) (.tmp 44) 42 rfl (w5).heap.size 25 i0 _ 2 32 Try.underlying42 HI.out HZ0.out HZ1.out HZ2.out rfl (by omega) (.slice A8 n1a c8) n1a (encH hsa cs1a) rfl HO8.out A2a n2a c2a (encH hsb cs2a) rfl SVB8.out (oneCHl _ _) ?_ ?_ ?_ ?_
         (unfold maxLen; omega)
         omega
         omega
         (intro A9 c9 w9 hown9 hg9)
         (have HE9 : Hid (Ext (w5) w9) := own_ext HE8.out HO8.out (Nat.le_refl _) hg9)
         (have HS9 : Hid (SegC w9 A9 (n1a + n2a) (cs1a ++ cs2a)) := segC_app HLA.out HLB.out (own_parts hown9).1 (fun i h c e1 e2 => ⟨(HINA.out i h c e1 e2).1, (HINA.out i h c e1 e2).2.ext HE9.out⟩) (fun i h c e1 e2 => ⟨(HINB.out i h c e1 e2).1, (HINB.out i h c e1 e2).2.ext HE9.out⟩))
         (clear hown9 hg9 HO8 SVB SVB8 HINA HINB HE8)))
    have hn9 : n1a + n2a ≤ maxLen := by unfold maxLen; omega
    go_wp2_with fail
    refine (calls_val (implSA_any A9 (n1a + n2a) c9 (cs1a ++ cs2a) A1b n1b c1b vs1b _ hn9 HS9.out hn1b (SAV.out.ext HE9.out)) (congrArg Value.bool HAP.out)).mono ?_
    rintro e w10 ⟨rfl, hE10⟩
    have HF := Lib.hid ((HE5.out.trans HE9.out).trans hE10)
    clear hE10
    go_wp2
    go_ret
    exact ⟨rfl, HF.out⟩
  · rw [Bool.true_and] at HAP
    go_wp2_with fail
    refine (calls_val (implSA_any A1a n1a c1a cs1a A1b n1b c1b vs1b _ hn1a (hG1a.out.ext hC2) hn1b (hG1b.out.seg.ext hC2)) (congrArg Value.bool hx.out)).mono ?_
    rintro e w3 ⟨rfl, hE3⟩
    have hC3 : Ext w2 w3 := hE3
    have ze3 := hC3.size
    clear hE3
    go_wp2_with fail
    refine (calls_val (implSA_any A2a n2a c2a cs2a A1b n1b c1b vs1b _ hn2a (hG2a.out.ext hC3) hn1b (hG1b.out.seg.ext (hC2.trans hC3))) (congrArg Value.bool hy.out)).mono ?_
    rintro e w4 ⟨rfl, hE4⟩
    have hC4 : Ext w3 w4 := hE4
    have ze4 := hC4.size
    clear hE4
    go_wp2_with fail
    refine (calls_val (specSA_any A1a n1a c1a cs1a A1b n1b c1b vs1b _ hn1a (hG1a.out.ext ((hC2.trans hC3).trans hC4)) hn1b (hG1b.out.seg.ext ((hC2.trans hC3).trans hC4))) (congrArg Value.bool hx.out)).mono ?_
    rintro e w5 ⟨rfl, hE5⟩
    have HE5 := Lib.hid ((((hC1.trans hC2).trans hC3).trans hC4).trans hE5)
    have SA1 := Lib.hid ((hG1a.out.ext ((hC2.trans hC3).trans hC4)).ext hE5)
    have SA2 := Lib.hid ((hG2a.out.ext (hC3.trans hC4)).ext hE5)
    have SAV := Lib.hid ((hG1b.out.seg.ext ((hC2.trans hC3).trans hC4)).ext hE5)
    clear hE5
    obtain ⟨i0, hi, hz0, hz1, hz2⟩ := info_parts Try.infoCnL
    have HI := Lib.hid hi
    have HZ0 := Lib.hid hz0
    have HZ1 := Lib.hid hz1
    have HZ2 := Lib.hid hz2
    clear hi hz0 hz1 hz2
    obtain ⟨hsa, hla, hSa, hina⟩ := SA1.out
    obtain ⟨hsb, hlb, hSb, hinb⟩ := SA2.out
    have HINA := Lib.hid hina
    have HINB := Lib.hid hinb
    have HLA := Lib.hid hla
    have HLB := Lib.hid hlb
    have SVA := Lib.hid (hSa.alloc (.cells #[] 25))
    have SVB := Lib.hid hSb
    have OE := own_empty w5 (w5).heap.size 25 2 (Nat.le_refl _)
    clear hina hinb hla hlb hSa hSb
    go_wp2_with (first
      | (at_builtin
         refine wpList_append_segW _ (by first | rfl | go_simp)  (.tmp 41) (.tmp 42) 42 rfl (w5).heap.size 25 i0 _ 2 32 Try.underlying42 HI.out HZ0.out HZ1.out HZ2.out rfl (by omega) (.slice (some ⟨(w5).heap.size, 0, none⟩) 0 0) 0 [] rfl OE A1a n1a c1a (encH hsa cs1a) rfl SVA.out (oneCHl _ _) ?_ ?_ ?_ ?_
         (unfold maxLen; omega)
         omega
         (first | exact Nat.le_refl _ | simp)
         (intro A8 c8 w8 hown8 hg8)
         (simp only [Nat.zero_add, List.nil_append] at hown8 ⊢)
         (have HO8 := Lib.hid hown8)
         (have HE8 : Hid (Ext (w5) w8) := ((Ext.refl (w5)).alloc _).grown hg8 (fun k hk => Nat.le_of_eq (Option.some.inj hk)))
         (have hz8 := HE8.out.size)
         (have SVB8 := Lib.hid (SVB.out.ext HE8.out))
         (clear hown8 hg8 OE SVA))
      | (at_builtin
         refine wpList_append_segW _ (by first | rfl | go_simp)  (.tmp 43) (.tmp 44) 42 rfl (w5).heap.size 25 i0 _ 2 32 Try.underlying42 HI.out HZ0.out HZ1.out HZ2.out rfl (by omega) (.slice A8 n1a c8) n1a (encH hsa cs1a) rfl HO8.out A2a n2a c2a (encH hsb cs2a) rfl SVB8.out (oneCHl _ _) ?_ ?_ ?_ ?_
         (unfold maxLen; omega)
         omega
         omega
         (intro A9 c9 w9 hown9 hg9)
         (have HE9 : Hid (Ext (w5) w9) := own_ext HE8.out HO8.out (Nat.le_refl _) hg9)
         (have HS9 : Hid (SegC w9 A9 (n1a + n2a) (cs1a ++ cs2a)) := segC_app HLA.out HLB.out (own_parts hown9).1 (fun i h c e1 e2 => ⟨(HINA.out i h c e1 e2).1, (HINA.out i h c e1 e2).2.ext HE9.out⟩) (fun i h c e1 e2 => ⟨(HINB.out i h c e1 e2).1, (HINB.out i h c e1 e2).2.ext HE9.out⟩))
         (clear hown9 hg9 HO8 SVB SVB8 HINA HINB HE8)))
    have hn9 : n1a + n2a ≤ maxLen := by unfold maxLen; omega
    go_wp2_with fail
    refine (calls_val (implSA_any A9 (n1a + n2a) c9 (cs1a ++ cs2a) A1b n1b c1b vs1b _ hn9 HS9.out hn1b (SAV.out.ext HE9.out)) (congrArg Value.bool HAP.out)).mono ?_
    rintro e w10 ⟨rfl, hE10⟩
    have HF := Lib.hid ((HE5.out.trans HE9.out).trans hE10)
    clear hE10
    go_wp2
    go_ret
    exact ⟨ret_b (by cases y <;> rfl), HF.out⟩

theorem own : ownKnob Try.prog.godebug = none := by kernel_rfl
theorem laidOut : laidOutB Try.prog = true := by kernel_rfl

set_option maxRecDepth 100000 in
theorem lifted (os : Os) (started : os.Started) (H : Type) (enc : TypeId × Value → H) :
    ReturnsInHanded {} Try.checked os 5 .any (Rows.fnSatisfiesAllSpec.pre6 enc Try.prog Try.f5 Rows.fnSatisfiesAllRow.domain false) (Rows.fnSatisfiesAllSpec.post enc Try.prog Try.f5 false true false false) := by
  refine returnsInHanded_of_change (C := Try.checked) own started (by kernel_rfl) Try.func5
    (ChangeSpec.witness6 (enc := enc) (C := Try.checked) false ⟨#[], #[.slice none 0 0, .slice none 0 0], []⟩ 8 (by kernel_rfl) (by kernel_rfl) (by kernel_rfl) (by kernel_rfl)) ?_
  intro W base args ds gs before hval0 hW hcnd _
  have hval : ∀ (j : Nat) t v, Try.f5.params[j]? = some t → args[j]? = some v → Value.okWide Try.prog W .any base t v := hval0
  have hW' := hW
  obtain ⟨p, q, hA0, hV, rfl, hfz, hnd⟩ := hW
  have hA : DataW.TrodAll enc Try.prog W 0 (fun _ => true) true Try.f5.params.toList args.toList ds p := hA0
  rw [Try.params5] at hA hval
  obtain ⟨v0, vs0, d0, ds0, p0, q0, hargs, rfl, rfl, h0, r0⟩ := trodAll_cons hA
  obtain ⟨v1, vs1, d1, ds1, p1, q1, rfl, rfl, rfl, h1, r1⟩ := trodAll_cons r0
  obtain ⟨rfl, rfl, rfl⟩ := trodAll_nil r1
  obtain rfl : args = #[v0, v1] := by cases args; simp_all
  obtain ⟨rfl, rfl⟩ := trodVars_none hV
  have k0 := h0
  have lt0 : ∀ x ∈ p0, x.block < W.heap.size := by obtain ⟨m, hm⟩ := k0; exact DataW.trod_lt m _ _ _ hm
  obtain ⟨A0, n0, cap0, zs0, rfl, hn0, hc0, hs0, hb0⟩ := arg_bytes (hval 0 22 v0 rfl rfl) h0
  have k1 := h1
  have lt1 : ∀ x ∈ p1, x.block < W.heap.size := by obtain ⟨m, hm⟩ := k1; exact DataW.trod_lt m _ _ _ hm
  obtain ⟨A1, n1, cap1, zs1, rfl, hn1, hc1, hs1, hb1⟩ := arg_bytes (hval 1 22 v1 rfl rfl) h1
  clear hA0 hval0
  refine (walk A0 n0 cap0 zs0 A1 n1 cap1 zs1 W hn0 hc0 hs0 hb0 hn1 hc1 hs1 hb1).mono fun e W' ⟨he, ext⟩ => ?_
  subst he
  have bel := ext.below
  exact ⟨_, rfl, _, _, _, [], _, [], hW', trodAll_mk1 (shut_bool Try.underlying4 _), (trodAll_cons_mk (Below.trod laidOut (by kernel_rfl) (of_decide_eq_true (by kernel_rfl)) k0 bel lt0) (trodAll_cons_mk (Below.trod laidOut (by kernel_rfl) (of_decide_eq_true (by kernel_rfl)) k1 bel lt1) trodAll_mk0)), rfl, bel.frame _, fun h => by cases h⟩

set_option maxHeartbeats 4000000 in
theorem joined : joinedFacts Try.pinned.checked.prog 5 Try.f5 Rows.fnSatisfiesAllSpec Rows.fnSatisfiesAllRow = true := by
  unfold joinedFacts
  exact (and2 (and2 (and2 (and2 (and2 (and2 (and2 (and2 (and2 (and2 (and2 (and2 (and2 (and2 (and2 (and2 (and2 (and2 (and2 (and2 (and2 (and2 (and2 (and2 (and2 (and2 (and2 (and2 (and2 (and2 (and2 (by as_aux_lemma => kernel_rfl) (by as_aux_lemma => kernel_rfl)) (by as_aux_lemma => kernel_rfl)) (by as_aux_lemma => kernel_rfl)) (by as_aux_lemma => kernel_rfl)) (by as_aux_lemma => kernel_rfl)) (by as_aux_lemma => kernel_rfl)) (by as_aux_lemma => kernel_rfl)) (by as_aux_lemma => kernel_rfl)) (by as_aux_lemma => kernel_rfl)) (by as_aux_lemma => kernel_rfl)) (by as_aux_lemma => kernel_rfl)) (by as_aux_lemma => kernel_rfl)) (by as_aux_lemma => kernel_rfl)) (by as_aux_lemma => kernel_rfl)) (by as_aux_lemma => kernel_rfl)) (by as_aux_lemma => kernel_rfl)) (by as_aux_lemma => kernel_rfl)) (by as_aux_lemma => kernel_rfl)) (by as_aux_lemma => kernel_rfl)) (by as_aux_lemma => kernel_rfl)) (by as_aux_lemma => kernel_rfl)) (by as_aux_lemma => kernel_rfl)) (by as_aux_lemma => kernel_rfl)) (by as_aux_lemma => kernel_rfl)) jEnter) jLift) jMake) (by as_aux_lemma => kernel_rfl)) (by as_aux_lemma => kernel_rfl)) (by as_aux_lemma => kernel_rfl)) (by as_aux_lemma => kernel_rfl))

set_option maxHeartbeats 4000000 in
theorem over : Rows.fnSatisfiesAllRow.holds Try.pinned (OpenSpec.ofChange Rows.fnSatisfiesAllSpec) :=
  OpenClaim.holds_of_wide 5 Try.f5 rfl rfl rfl rfl rfl rfl rfl ⟨rfl, rfl, rfl, rfl, rfl⟩ rfl rfl rfl rfl rfl (by kernel_rfl) Try.func5 joined
    (of_decide_eq_true (by kernel_rfl)) (by unfold Func.isWrapper; first | (rw [if_pos (by decide +kernel)]; kernel_rfl) | (rw [if_neg (by decide +kernel)]; exact ⟨rfl, rfl⟩))
    (fun os started H enc _ => lifted os started H enc)

theorem proved : Rows.FnSatisfiesAllSaid := over

end Go.Proofs.Ytihbgajlnbchlaa.satisfiesAll
