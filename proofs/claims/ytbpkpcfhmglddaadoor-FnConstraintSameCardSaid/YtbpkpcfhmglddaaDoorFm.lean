/- FormatConstraint: the text of a constraint. -/
import Derived.Test.YtbpkpcfhmglddaaDoorPlFm
import Derived.Test.YtbpkpcfhmglddaaDoorShelfD
import Derived.Test.YtbpkpcfhmglddaaDoorMemD
import Derived.Shelf.Strconv.Itoa3
import Derived.Lib.ItoaLen
namespace Go.Proofs.YtbpkpcfhmglddaaDoor
open Go.RowKit Go.Lib

/-- the library's table of powers of ten -/
def Tab (w : World) : Prop := TabIs Tryd.prog w "internal/strconv.uint64pow10" .u64 pow10Tab
theorem Tab.ext {w w' : World} (h : Tab w) (hE : Ext w w') : Tab w' := by
  unfold Tab TabIs World.var? at h ⊢
  cases hg : Tryd.prog.globalNamed "internal/strconv.uint64pow10" with
  | none => rw [hg] at h; cases h
  | some g =>
    rw [hg] at h
    simp only [Option.bind_some] at h ⊢
    have hlt : g < w.heap.size := by
      rcases Nat.lt_or_ge g w.heap.size with h1 | h1
      · exact h1
      · rw [Array.getElem?_eq_none h1] at h; cases h
    rw [hE.block g hlt (.inr (Nat.zero_le _))]
    exact h
theorem ext_sgrow {w : World} (k : Nat) (os : Array Obj) : Ext w (Go.Sort.grow (w.drewN k) os) :=
  ⟨rfl, rfl, rfl, by simp, fun i hi _ => Go.Sort.heap_grow_old (w.drewN k) os hi⟩

def bs (l : List UInt8) : ByteArray := ⟨l.toArray⟩
theorem bs_app (x y : List UInt8) : bs x ++ bs y = bs (x ++ y) := ByteArray.mk_append_mk x y
theorem bs_size (x : List UInt8) : (bs x).size = x.length := rfl
theorem bs_inj {x y : List UInt8} : bs x = bs y ↔ x = y := ⟨fun h => by injection h with h; simpa using h, fun h => by rw [h]⟩

theorem itoa_any (n : Int) (w : World) (h0 : -9223372036854775808 ≤ n) (h1 : n ≤ 9223372036854775807) (ht : Tab w) :
    Calls Tryd.prog 21 #[.int .i64 n] w fun e w' => e = .returned (.string (bs (itoa n))) ∧ Ext w w' := by
  refine Calls.mono (Any.strconv_Itoa Tryd.laysItoa n h0 h1 w ht) ?_
  rintro e w' ⟨rfl, k, os, rfl⟩
  exact ⟨rfl, ext_sgrow k os⟩

set_option maxHeartbeats 1000000 in
theorem litText_any (l : Int) (w : World) (hl : litB l = true) (ht : Tab w) :
    Calls Tryd.prog 22 #[.int .i64 l] w fun e w' => e = .returned (.string (bs (litX l))) ∧ Ext w w' := by
  have hb := (litB_iff l).1 hl
  by_cases h : l < 0
  · have hc : decide (l < 0) = true := decide_eq_true h
    have wn : IntKind.i64.wrap (-l) = -l := IntWalk.i64_in _ (by omega)
    have hlen := itoa_length_le (-l) (by omega) (by omega)
    obtain ⟨s, hs⟩ : ∃ s, bs (itoa (-l)) = s := ⟨_, rfl⟩
    have hz : s.size ≤ 21 := by rw [← hs]; exact hlen
    have HS := Lib.hid hs
    have HX : Hid (bs (litX l) = bs [126, 120] ++ s) := by unfold litX Hid; rw [if_pos h, ← bs_app, hs]
    have HT := Lib.hid ht
    clear hs hlen ht
    go_enter Tryd.func22, Tryd.ntmps22
    go_wp2_with fail
    refine (calls_val (itoa_any (-l) _ (by omega) (by omega) HT.out) (congrArg Value.string HS.out)).mono ?_
    rintro e w1 ⟨rfl, hE⟩
    go_wp2
    go_ret
    exact ⟨by rw [HX.out]; rfl, hE⟩
  · have hc : decide (l < 0) = false := decide_eq_false h
    have hlen := itoa_length_le l (by omega) (by omega)
    obtain ⟨s, hs⟩ : ∃ s, bs (itoa l) = s := ⟨_, rfl⟩
    have hz : s.size ≤ 21 := by rw [← hs]; exact hlen
    have HS := Lib.hid hs
    have HX : Hid (bs (litX l) = bs [120] ++ s) := by unfold litX Hid; rw [if_neg h, ← bs_app, hs]
    have HT := Lib.hid ht
    clear hs hlen ht
    go_enter Tryd.func22, Tryd.ntmps22
    go_wp2_with fail
    refine (calls_val (itoa_any l _ (by omega) (by omega) HT.out) (congrArg Value.string HS.out)).mono ?_
    rintro e w1 ⟨rfl, hE⟩
    go_wp2
    go_ret
    exact ⟨by rw [HX.out]; rfl, hE⟩

theorem litX_size {l : Int} (hl : litB l = true) : (bs (litX l)).size ≤ 23 := by
  have hb := (litB_iff l).1 hl
  have h1 := itoa_length_le l (by omega) (by omega)
  have h2 := itoa_length_le (-l) (by omega) (by omega)
  rw [bs_size]
  unfold litX
  split <;> simp <;> omega

set_option maxRecDepth 100000 in
set_option maxHeartbeats 4000000 in
theorem text_any (A : Option Addr) (n cap : Nat) (ts : List Tm) (bd : Int) (w : World) (h : Seg w 2 A n (encT ts)) (hv : cvB ts bd = true) (ht : Tab w) :
    Calls Tryd.prog 14 #[.agg #[.slice A n cap, .int .i64 bd]] w fun e w' => e = .returned (.string (bs (textX ts bd))) ∧ Ext w w' := by
  have HL := Lib.hid h.lenT
  have hn : n ≤ 12 := by have := cvB_len hv; rw [HL.out] at this; exact this
  have hbd := cvB_bd hv
  have HN := Lib.hid h
  have HT := Lib.hid ht
  have HV := Lib.hid hv
  clear h hv ht
  go_enter Tryd.func14, Tryd.ntmps14
  have hC0 := (Blk.new w 25 #[.slice A n cap, .int .i64 bd])
  have b0 := hC0.cell 0
  go_wp2_with fail
  clear b0
  go_loopw [3, 9] (fun s i wr => ∃ (k : Nat) (a : ByteArray), k ≤ n ∧ i = .int .i64 k ∧ s = .string a ∧ Hid (a = bs (termsX (ts.take k))) ∧ a.size ≤ 100 * k ∧ Ext w wr ∧ Hid (Blk wr w.heap.size 25 #[.slice A n cap, .int .i64 bd])) (fun _ i _ => n - (RowKit.intOf i).toNat)
  case atStart => exact ⟨0, _, by omega, rfl, rfl, rfl, by decide, (Ext.refl _).alloc _, hC0⟩
  case round =>
    obtain ⟨k, a, hk, rfl, rfl, ha, hsz, hE, hB0⟩ := hrel
    have hlt0 := hB0.out.lt
    by_cases hlt : k < n
    · obtain ⟨b, off, c, l, rfl, hx, t1, t2⟩ := (HN.out.ext hE).term hlt
      have hcl := cvB_get HV.out hx
      have HX := Lib.hid (show termsX (ts.take (k + 1)) = _ from by rw [take_of_get _ _ _ hx, termsX_snoc])
      have hcb : 1 ≤ c ∧ c ≤ 1000 := by have := hcl; omega
      have HLb := Lib.hid hcl.1
      have hl1 := itoa_length_le c (by omega) (by omega)
      have hl2 := litX_size hcl.1
      obtain ⟨s1, hs1⟩ : ∃ s, bs (itoa c) = s := ⟨_, rfl⟩
      obtain ⟨s2, hs2⟩ : ∃ s, bs (litX l) = s := ⟨_, rfl⟩
      have hz1 : s1.size ≤ 21 := by rw [← hs1]; exact hl1
      have hz2 : s2.size ≤ 23 := by rw [← hs2]; exact hl2
      have HS1 := Lib.hid hs1
      have HS2 := Lib.hid hs2
      have HTW := Lib.hid (HT.out.ext (hE.alloc (.cells #[.int .i64 c, .int .i64 l] 38)))
      have hE' : Hid (Ext w (wr.alloc (.cells #[.int .i64 c, .int .i64 l] 38))) := hE.alloc _
      have hB0' := Lib.hid (hB0.out.alloc (.cells #[.int .i64 c, .int .i64 l] 38))
      have hB1 := Blk.new wr 38 #[.int .i64 c, .int .i64 l]
      have c0 : ∀ p : ExtBy (wr.alloc (.cells #[.int .i64 c, .int .i64 l] 38)), p.to.cell? ⟨wr.heap.size, 0, none⟩ = some (.int .i64 c) := fun p => p.cell (hB1.cell 0)
      have c1 : ∀ p : ExtBy (wr.alloc (.cells #[.int .i64 c, .int .i64 l] 38)), p.to.cell? ⟨wr.heap.size, 1, none⟩ = some (.int .i64 l) := fun p => p.cell (hB1.cell 1)
      clear hx hs1 hs2 hl1 hl2 hB1 hcl
      go_wp2_with fail
      refine wp_region_ext_lit (by kernel_rfl) (by kernel_rfl) ?_
      repeat (go_big_quiet_step (first
        | (go_at_call 21; exact ext_call (calls_val (itoa_any c _ (by omega) (by omega) (HTW.out.ext (ExtBy.ext _))) (congrArg Value.string HS1.out)))
        | (go_at_call 22; exact ext_call (calls_val (litText_any l _ HLb.out (HTW.out.ext (ExtBy.ext _))) (congrArg Value.string HS2.out)))))
      refine wpQuiet_nil ?_
      intro w1 hw'
      obtain ⟨⟨wq, hE1⟩, hw''⟩ := hw'
      subst hw''
      clear c0 c1
      replace hE1 : Ext (wr.alloc (.cells #[.int .i64 c, .int .i64 l] 38)) w1 := hE1
      have hE2 := Lib.hid (hE'.out.trans hE1)
      have hB2 := Lib.hid (hB0'.out.ext hE1)
      have hsum : Hid (a ++ (s1 ++ (⟨#[32]⟩ : ByteArray) ++ s2 ++ (⟨#[32]⟩ : ByteArray)) = bs (termsX (ts.take (k + 1)))) := by
        unfold Hid
        rw [HX.out, ← bs_app, ← ha.out, ← bs_app, ← bs_app, ← bs_app, HS1.out, HS2.out]
        rfl
      have hsz2 : (a ++ (s1 ++ (⟨#[32]⟩ : ByteArray) ++ s2 ++ (⟨#[32]⟩ : ByteArray))).size ≤ 100 * (k + 1) := by
        simp only [ByteArray.size_append]
        have : (⟨#[32]⟩ : ByteArray).size = 1 := rfl
        omega
      clear hE1
      go_wp2
      go_roundw
      case rel => exact ⟨k + 1, _, by omega, by go_num, rfl, hsum.out, hsz2, hE2.out, hB2.out⟩
      case measure => simp [RowKit.intOf]; omega
    · obtain rfl : k = n := by omega
      rw [List.take_of_length_le (by rw [HL.out]; omega)] at ha
      have hl1 := itoa_length_le bd (by omega) (by omega)
      obtain ⟨s1, hs1⟩ : ∃ s, bs (itoa bd) = s := ⟨_, rfl⟩
      have hz1 : s1.size ≤ 21 := by rw [← hs1]; exact hl1
      have HS1 := Lib.hid hs1
      have HTW := Lib.hid (HT.out.ext hE)
      have b1 := hB0.out.cell 1
      have hE0 := Lib.hid hE
      clear hs1 hl1 hE
      go_wp2_with fail
      refine (calls_val (itoa_any bd _ (by omega) (by omega) HTW.out) (congrArg Value.string HS1.out)).mono ?_
      rintro e w1 ⟨rfl, hE1⟩
      go_wp2
      go_ret
      refine ⟨?_, hE0.out.trans hE1⟩
      have e : bs (textX ts bd) = a ++ (⟨#[62, 61, 32]⟩ : ByteArray) ++ s1 := by
        unfold textX
        rw [← bs_app, ← bs_app, HS1.out, ← ha.out, ByteArray.append_assoc]
        rfl
      rw [e]
      rfl

set_option maxHeartbeats 1000000 in
theorem format_any (A : Option Addr) (n cap : Nat) (ts : List Tm) (bd : Int) (w : World) (hn : n ≤ maxLen) (h : Seg w 2 A n (encT ts)) (ht : Tab w) :
    Calls Tryd.prog 7 #[.agg #[.slice A n cap, .int .i64 bd]] w fun e w' => e = .returned (.string (bs (fmX ts bd))) ∧ Ext w w' := by
  have HN := Lib.hid h
  have HT := Lib.hid ht
  have B0 := Blk.new w 25 #[.slice A n cap, .int .i64 bd]
  have HE0 : Hid (Ext w (w.alloc (.cells #[.slice A n cap, .int .i64 bd] 25))) := (Ext.refl w).alloc _
  have HB0 := Lib.hid B0
  clear h ht B0
  by_cases hv : cvB ts bd = true
  · have HV := Lib.hid hv
    have HF : Hid (fmX ts bd = textX ts bd) := by unfold fmX Hid; rw [if_pos hv]
    clear hv
    go_enter Tryd.func7, Tryd.ntmps7
    go_wp2_with fail
    refine (calls_val (implCV_any A n cap ts bd _ hn (HN.out.ext HE0.out)) (congrArg Value.bool HV.out)).mono ?_
    rintro e w1 ⟨rfl, hE1⟩
    have hB1 := HB0.out.ext hE1
    have b0 := hB1.cell 0
    have b1 := hB1.cell 1
    have hE := Lib.hid (HE0.out.trans hE1)
    clear hB1 hE1
    go_wp2_with fail
    refine (text_any A n cap ts bd _ (HN.out.ext hE.out) HV.out (HT.out.ext hE.out)).mono ?_
    rintro e w2 ⟨rfl, hE2⟩
    go_wp2
    go_ret
    exact ⟨by rw [HF.out]; rfl, hE.out.trans hE2⟩
  · have HV := Lib.hid (show cvB ts bd = false by simpa using hv)
    have HF : Hid (fmX ts bd = []) := by unfold fmX Hid; rw [if_neg hv]
    clear hv
    go_enter Tryd.func7, Tryd.ntmps7
    go_wp2_with fail
    refine (calls_val (implCV_any A n cap ts bd _ hn (HN.out.ext HE0.out)) (congrArg Value.bool HV.out)).mono ?_
    rintro e w1 ⟨rfl, hE1⟩
    go_wp2
    go_ret
    exact ⟨by rw [HF.out]; rfl, HE0.out.trans hE1⟩
end Go.Proofs.YtbpkpcfhmglddaaDoor
