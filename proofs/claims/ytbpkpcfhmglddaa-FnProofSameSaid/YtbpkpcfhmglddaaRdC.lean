/- The drawn constraint: l1Draw, l1Constraint, l1Copy, l1Mutate: SOME terms, in memory of the call's own. -/
import Derived.Test.YtbpkpcfhmglddaaRd
import Derived.Test.YtbpkpcfhmglddaaTot
import Derived.Deep.RegionHeld3
import Derived.Deep.AppendLies
namespace Go.Proofs.Ytbpkpcfhmglddaa
open Go.RowKit

/-- SOME constraint of at most N terms -/
def RdC (N g L : Nat) (w : World) (e : Ending) (w' : World) : Prop :=
  ∃ A n c ts bd, e = .returned (.agg #[.slice A n c, .int .i64 bd]) ∧ ts.length = n ∧ n ≤ N ∧ Got w w' 2 A n (encT ts) ∧ Kept g (g + 1) w w' ∧ Rd w' g L
theorem RdC.mono {N N' g L L' : Nat} {w : World} {e : Ending} {w' : World} (h : RdC N g L w e w') (hN : N ≤ N') (hl : L ≤ L') : RdC N' g L' w e w' := by
  obtain ⟨A, n, c, ts, bd, he, h1, h2, h3, h4, h5⟩ := h
  exact ⟨A, n, c, ts, bd, he, h1, by omega, h3, h4, h5.mono hl⟩

/-- an own row, behind a step that writes ahead of it -/
theorem own_kept {w w' : World} {base lo hi : Nat} {e : TypeId} {sz n : Nat} {v : Value} {xs : List Value} (hown : w.ownsRow base e sz v n xs) (k : Kept lo hi w w') (h : hi ≤ base) : w'.ownsRow base e sz v n xs := by
  refine ⟨hown.1, ?_⟩
  rcases hown.2 with hn | ⟨g, cap, cur, hv, hb, hgg, rest⟩
  · exact .inl hn
  · exact .inr ⟨g, cap, cur, hv, hb, (k.block g (Array.getElem?_eq_some_iff.1 hgg).1 (.inr (by omega))).trans hgg, rest⟩
theorem kept_of_grown {w w' : World} {row : Option Nat} {lo : Nat} (hg : w.grownBy w' row) (hr : ∀ k, row = some k → lo ≤ k) : Kept lo w.heap.size w w' :=
  ⟨hg.os, hg.tape, hg.output, hg.size, fun i hi ho => hg.block i hi fun e => by have := hr i e.symm; omega⟩

/-- 'c.Terms = append(c.Terms, x)' beside a random source -/
theorem push_all {a W w1 : World} {g gc base L : Nat} {e t : TypeId} {sz n m : Nat} {v v1 bx : Value} {xs ys : List Value} {o : Obj}
    (KA : Kept g (g + 1) a W) (R : Rd W g L) (B : Blk W gc t #[v, bx]) (own : W.ownsRow base e sz v n xs) (hgg : g < gc) (hag : a.heap.size ≤ gc) (hgb : gc < base) (hg : (W.alloc o).grownBy w1 v.ownBlock) (own1 : w1.ownsRow base e sz v1 m ys) :
    Kept g (g + 1) a (w1.setCell ⟨gc, 0, none⟩ v1) ∧ Rd (w1.setCell ⟨gc, 0, none⟩ v1) g L ∧ Blk (w1.setCell ⟨gc, 0, none⟩ v1) gc t #[v1, bx] ∧ (w1.setCell ⟨gc, 0, none⟩ v1).ownsRow base e sz v1 m ys := by
  have KG : Kept base (W.alloc o).heap.size (W.alloc o) w1 := kept_of_grown hg fun k hk => ((own.alloc o).lt k hk).1
  exact ⟨((KA.alloc o).fresh KG (by omega)).setNew hag _, ((R.alloc o).kept KG (by omega)).far (p := ⟨gc, 0, none⟩) hgg _, (push_pre B own hgb hg).set_ 0 v1, own_far own1 hgb v1⟩

theorem Try.infoTmR : (Try.prog.info? 38).map (fun i => (i.zero, i.size, i.bytes)) = some (some (.agg #[.int .i64 0, .int .i64 0]), 2, 16) := by kernel_rfl

def smallC (ts : List Tm) : Prop := ∀ t ∈ ts, 0 ≤ t.1 ∧ t.1 ≤ 1000

set_option maxHeartbeats 1000000 in
theorem l1TotalS_any (A : Option Addr) (n cap : Nat) (ts : List Tm) (bd : Int) (w : World) (h : Seg w 2 A n (encT ts)) (hn : n ≤ 1000) (hv : smallC ts) :
    Calls Try.prog 75 #[.agg #[.slice A n cap, .int .i64 bd]] w fun e w' => (∃ z : Int, e = .returned (.int .i64 z) ∧ 0 ≤ z ∧ z ≤ 1000000) ∧ Ext w w' := by
  have HL := Lib.hid h.lenT
  have HV := Lib.hid hv
  clear hv
  go_enter Try.func75, Try.ntmps75
  go_wp2_with fail
  go_loopw [3, 4] (fun s i wr => ∃ (k : Nat) (z : Int), k ≤ n ∧ i = .int .i64 k ∧ s = .int .i64 z ∧ 0 ≤ z ∧ z ≤ 1000 * k ∧ Ext (w.alloc (.cells #[.slice A n cap, .int .i64 bd] 25)) wr) (fun _ i _ => n - (intOf i).toNat)
  case atStart => exact ⟨0, 0, Nat.zero_le _, rfl, rfl, by omega, by omega, Ext.refl _⟩
  case round =>
    obtain ⟨k, z, hk, rfl, rfl, hz0, hz1, hE⟩ := hrel
    have B0 := Blk.of1 hE
    have b0 := B0.cell 0
    have b1 := B0.cell 1
    clear B0
    by_cases hlt : k < n
    · obtain ⟨b, off, c, l, rfl, hx, c1, c2⟩ := ((h.alloc _).ext hE).term hlt
      obtain ⟨hc1, hc2⟩ := HV.out (c, l) (List.mem_of_getElem? hx)
      clear hx h
      simp only at hc1 hc2
      go_wp2
      go_roundw
      case rel => exact ⟨k + 1, z + c, by omega, by go_num, by first | rfl | go_num, by omega, by omega, hE⟩
      case measure => simp [intOf]; omega
    · obtain rfl : k = n := by omega
      clear h
      go_wp2
      go_ret
      exact ⟨⟨z, rfl, hz0, by omega⟩, ((Ext.refl _).alloc _).trans hE⟩

set_option maxRecDepth 100000 in
set_option maxHeartbeats 4000000 in
theorem l1Draw_any (g L m : Nat) (w : World) (h : Rd w g L) (hL : L ≤ 900000000) (hm : m ≤ 12) :
    Calls Try.prog 67 #[.pointer (some ⟨g, 0, none⟩), .int .i64 m] w (RdC 12 g (L + 50) w) := by
  obtain ⟨i0, hi, hz0, hz1, hz2⟩ := info_parts Try.infoTmR
  have HI := Lib.hid hi
  have HZ0 := Lib.hid hz0
  have HZ1 := Lib.hid hz1
  have HZ2 := Lib.hid hz2
  have hgw := h.lt
  have HR := Lib.hid h
  clear hi hz0 hz1 hz2 h
  go_enter Try.func67, Try.ntmps67
  go_wp2_with fail
  go_loopw [6] (fun i wr => ∃ (v : Nat), 1 ≤ v ∧ v ≤ m + 1 ∧ i = .int .i64 v ∧ Kept g (g + 1) w wr ∧ Hid (Rd wr g (L + 3 * v)) ∧ Hid (Blk wr w.heap.size 25 #[.slice none 0 0, .int .i64 0]) ∧ ∃ (s : Value) (k : Nat) (ts : List Tm), k + 1 ≤ v ∧ ts.length = k ∧ Hid (smallC ts) ∧ Hid (Blk wr (w.heap.size + 1) 25 #[s, .int .i64 0]) ∧ Hid (wr.ownsRow (w.heap.size + 2) 38 2 s k (encT ts))) (fun i _ => m + 1 - (intOf i).toNat)
  case atStart =>
    refine ⟨1, by omega, by omega, rfl, ((Kept.refl _ _ _).alloc _).alloc _, ((HR.out.mono (by omega)).alloc _).alloc _, (Blk.new _ _ _).alloc _, .slice none 0 0, 0, [], by omega, rfl, (fun t (ht : t ∈ []) => nomatch ht), ?_, World.ownsRow_nil _ _ _ _⟩
    have := Blk.new (w.alloc (.cells #[.slice none 0 0, .int .i64 0] 25)) 25 #[.slice none 0 0, .int .i64 0]
    rw [World.size_alloc] at this; exact this
  case round =>
    obtain ⟨v, hv1, hv2, rfl, hE, hR, hB0, s, k, ts, hk, hl, hS, hB1, hown⟩ := hrel
    have HL := Lib.hid hl
    clear hl
    have hzw := hE.size
    have hzc := hB1.out.lt
    by_cases hlt : v ≤ m
    · go_wp2_with fail
      refine (pick_any g _ 2 _ hR.out (by omega) (by omega)).mono ?_
      rintro e w1 ⟨i, rfl, hi, hK1, hR1⟩
      have HK1 := Lib.hid (hE.trans hK1)
      have HR1 := Lib.hid hR1
      have hB01 := Lib.hid (hB0.out.kept hK1 (.inr (by omega)))
      have hB11 := Lib.hid (hB1.out.kept hK1 (.inr (by omega)))
      have hown1 := Lib.hid (own_kept hown.out hK1 (by omega))
      clear hi hK1 hR1 hE hR hB0 hB1 hown
      by_cases h0 : i = 0
      · subst h0
        go_wp2_with fail
        refine (num_lit [1, 1, 2, 3, 1, 5, 4] g _ 7 _ _ _ _ (by simp) rfl rfl (by omega) (by omega) HR1.out (by omega)).mono ?_
        rintro e w2 ⟨c, rfl, hc, hK2, hR2⟩
        have hcb : 0 ≤ c ∧ c ≤ 1000 := by simp at hc; omega
        have hz1 := hB01.out.lt
        have hz1' := hB11.out.lt
        have HK2 := Lib.hid (HK1.out.trans hK2)
        have HR2 := Lib.hid hR2
        have hB02 := Lib.hid (hB01.out.kept hK2 (.inr (by omega)))
        have hB12 := Lib.hid (hB11.out.kept hK2 (.inr (by omega)))
        have hown2 := Lib.hid (own_kept hown1.out hK2 (by omega))
        clear hc hK2 hR2 HK1 HR1 hB01 hB11 hown1
        go_wp2_with fail
        refine (pick_any g _ 2 _ (HR2.out.alloc _) (by omega) (by omega)).mono ?_
        rintro e w4 ⟨i, rfl, hi, hK4, hR4⟩
        have hz2 := hB02.out.lt
        have hz2' := hB12.out.lt
        have HK4 := Lib.hid hK4
        have HR4 := Lib.hid hR4
        have hB14 := Lib.hid ((hB12.out.alloc (.cells #[.int .i64 c, .int .i64 v] 38)).kept hK4 (.inr (by omega)))
        have hB74 := Lib.hid ((Blk.new w2 38 #[.int .i64 c, .int .i64 v]).kept hK4 (.inr (by omega)))
        have hz4 := hB74.out.lt
        clear hi hK4 hR4
        by_cases h0 : i = 0
        · subst h0
          have KW : Hid (Kept g (g + 1) w2 (w4.setCell ⟨w2.heap.size, 1, none⟩ (.int .i64 (-(v : Int))))) := (((Kept.refl g (g + 1) w2).alloc _).trans HK4.out).setNew (p := ⟨w2.heap.size, 1, none⟩) (Nat.le_refl _) (.int .i64 (-(v : Int)))
          have RW : Hid (Rd (w4.setCell ⟨w2.heap.size, 1, none⟩ (.int .i64 (-(v : Int)))) g (L + 3 * v + 3)) := (HR4.out.far (p := ⟨w2.heap.size, 1, none⟩) (by simp only; omega) (.int .i64 (-(v : Int)))).mono (by omega)
          have ownW := Lib.hid (own_kept hown2.out KW.out (by omega))
          have B1W := Lib.hid (hB12.out.kept KW.out (.inr (by omega)))
          have B0W := Lib.hid (hB02.out.kept KW.out (.inr (by omega)))
          clear HR4 hown2 hB12 hB02
          have b1 := hB14.out.cell 0
          have d0 := hB74.out.cell 0
          have d1 := hB74.out.cell 1
          have df := hB74.out.frozen 1
          go_wp2_with (first
            |
              (at_builtin
               refine wpList_append_own _ rfl (.tmp 30) (.tmp 32) 23 rfl (w.heap.size + 2) 38 i0 _ 2 16 Try.underlying23 HI.out HZ0.out HZ1.out HZ2.out rfl (by omega) s k _ rfl (ownW.out.alloc _) ⟨w4.heap.size, 0, none⟩ 1 1 [.int .i64 c, .int .i64 (-(v : Int))] rfl rfl (by have := cell_two_new (w4.setCell ⟨w2.heap.size, 1, none⟩ (.int .i64 (-(v : Int)))) (.int .i64 c) (.int .i64 (-(v : Int))) 38; first | (rw [World.size_setCell] at this; exact this) | (rw [World.size_alloc] at this; exact this) | exact this) ?_ ?_ ?_ ?_ ?_
               (intro u hu; simp at hu; rcases hu with rfl | rfl <;> rfl)
               (unfold maxLen; omega)
               omega
               (simp; omega)
               (intro v1 w5 hown5 hg5 _)
               (obtain ⟨A1, k1, rfl⟩ := own_slice hown5)
               (have BB := own_blk (B1W.out.alloc _) (ownW.out.alloc _) (by omega) hg5)
               (have bb := BB.cell 0)
               (have fz := BB.frozen 0)
               (clear BB)))
          obtain ⟨E1, R1, K1, O1⟩ := push_all (HK2.out.trans KW.out) RW.out B1W.out ownW.out (by omega) (by omega) (by omega) hg5 hown5
          have K0 := push_blk (gc := w.heap.size + 1) (v1 := .slice A1 (k + 1) k1) B0W.out ownW.out (by omega) (by omega) hg5
          go_roundw
          case rel =>
            refine ⟨v + 1, by omega, by omega, by go_num, E1, R1.mono (by omega), K0, _, k + 1, ts ++ [(c, -(v : Int))], by omega, by rw [List.length_append, HL.out]; rfl, ?_, K1, ?_⟩
            · intro t ht
              rcases List.mem_append.1 ht with ht | ht
              · exact hS.out t ht
              · obtain rfl : t = (c, -(v : Int)) := by simpa using ht
                exact hcb
            · rw [encT_append]
              simpa [encT, Hid] using O1
          case measure => simp [intOf]; omega
        · have hb : (i == 0) = false := by simpa using h0
          have KW : Hid (Kept g (g + 1) w2 (w4)) := (((Kept.refl g (g + 1) w2).alloc _).trans HK4.out)
          have RW : Hid (Rd (w4) g (L + 3 * v + 3)) := (HR4.out).mono (by omega)
          have ownW := Lib.hid (own_kept hown2.out KW.out (by omega))
          have B1W := Lib.hid (hB12.out.kept KW.out (.inr (by omega)))
          have B0W := Lib.hid (hB02.out.kept KW.out (.inr (by omega)))
          clear HR4 hown2 hB12 hB02
          have b1 := hB14.out.cell 0
          have d0 := hB74.out.cell 0
          have d1 := hB74.out.cell 1
          have df := hB74.out.frozen 1
          go_wp2_with (first
            |
              (at_builtin
               refine wpList_append_own _ rfl (.tmp 30) (.tmp 32) 23 rfl (w.heap.size + 2) 38 i0 _ 2 16 Try.underlying23 HI.out HZ0.out HZ1.out HZ2.out rfl (by omega) s k _ rfl (ownW.out.alloc _) ⟨w4.heap.size, 0, none⟩ 1 1 [.int .i64 c, .int .i64 v] rfl rfl (by have := cell_two_new (w4) (.int .i64 c) (.int .i64 v) 38; first | (rw [World.size_setCell] at this; exact this) | (rw [World.size_alloc] at this; exact this) | exact this) ?_ ?_ ?_ ?_ ?_
               (intro u hu; simp at hu; rcases hu with rfl | rfl <;> rfl)
               (unfold maxLen; omega)
               omega
               (simp; omega)
               (intro v1 w5 hown5 hg5 _)
               (obtain ⟨A1, k1, rfl⟩ := own_slice hown5)
               (have BB := own_blk (B1W.out.alloc _) (ownW.out.alloc _) (by omega) hg5)
               (have bb := BB.cell 0)
               (have fz := BB.frozen 0)
               (clear BB)))
          obtain ⟨E1, R1, K1, O1⟩ := push_all (HK2.out.trans KW.out) RW.out B1W.out ownW.out (by omega) (by omega) (by omega) hg5 hown5
          have K0 := push_blk (gc := w.heap.size + 1) (v1 := .slice A1 (k + 1) k1) B0W.out ownW.out (by omega) (by omega) hg5
          go_roundw
          case rel =>
            refine ⟨v + 1, by omega, by omega, by go_num, E1, R1.mono (by omega), K0, _, k + 1, ts ++ [(c, (v : Int))], by omega, by rw [List.length_append, HL.out]; rfl, ?_, K1, ?_⟩
            · intro t ht
              rcases List.mem_append.1 ht with ht | ht
              · exact hS.out t ht
              · obtain rfl : t = (c, (v : Int)) := by simpa using ht
                exact hcb
            · rw [encT_append]
              simpa [encT, Hid] using O1
          case measure => simp [intOf]; omega
      · have hb : (i == 0) = false := by simpa using h0
        go_wp2
        go_roundw
        case rel => exact ⟨v + 1, by omega, by omega, by go_num, HK1.out, HR1.out.mono (by omega), hB01.out, s, k, ts, by omega, HL.out, hS.out, hB11.out, hown1.out⟩
        case measure => simp [intOf]; omega
    · obtain ⟨A1, c1, rfl⟩ := own_slice hown.out
      have b0 := hB1.out.cell 0
      have b1 := hB1.out.cell 1
      have hE1 := Lib.hid hE
      have hP := own_parts hown.out
      have HS1 := Lib.hid hP.1
      have HF1 := Lib.hid hP.2.1
      have HL1 := Lib.hid hP.2.2
      clear hE hP
      go_wp2_with fail
      refine (l1TotalS_any A1 k c1 ts 0 _ HS1.out (by omega) hS.out).mono ?_
      rintro e w2 ⟨⟨z, rfl, hz0, hz1⟩, hEt⟩
      have hR2 := Lib.hid (hR.out.ext hEt)
      have hK2 := Lib.hid (hE1.out.trans (hEt.kept _ _))
      have hB02 := Lib.hid (hB0.out.ext hEt)
      have hB12 := Lib.hid (hB1.out.ext hEt)
      have hS2 := Lib.hid (HS1.out.ext hEt)
      have hF2 := Lib.hid (HF1.out.ext HS1.out hEt)
      have hL2 := Lib.hid (HL1.out.wide (Nat.le_refl _) hEt.size)
      clear hEt HS1 HF1 HL1 hE1 hR hB0 hB1 b0 b1
      go_wp2_with fail
      refine (num_lit [1, 2, 1, 3, 0] g _ 5 _ _ _ _ (by simp) rfl rfl (by omega) (by omega) hR2.out (by omega)).mono ?_
      rintro e w3 ⟨bd, rfl, _, hK3, hR3⟩
      have HR3 := Lib.hid hR3
      have HK3 := Lib.hid (hK2.out.trans hK3)
      have hB03 := Lib.hid (hB02.out.kept hK3 (.inr (by omega)))
      have hB13 := Lib.hid (hB12.out.kept hK3 (.inr (by omega)))
      have hS3 := Lib.hid (hS2.out.kept hL2.out hK3 (.inr (by omega)))
      have hF3 := Lib.hid (hF2.out.kept hS2.out hL2.out hK3 (.inr (by omega)))
      have hL3 := Lib.hid (hL2.out.wide (Nat.le_refl _) hK3.size)
      clear hK3 hR3 hR2 hK2 hB02 hB12 hS2 hF2 hL2
      have f1 := hB13.out.frozen 1
      have d1 := hB13.out.cell 1
      go_wp2_with fail
      refine (pick_any g _ 4 _ (HR3.out.far (p := ⟨w.heap.size + 1, 1, none⟩) (by simp only; omega) _) (by omega) (by omega)).mono ?_
      rintro e w4 ⟨i, rfl, hi, hK4, hR4⟩
      clear f1 d1
      have HR4 := Lib.hid hR4
      have HK4 := Lib.hid ((HK3.out.setNew (p := ⟨w.heap.size + 1, 1, none⟩) (by simp only; omega) (.int .i64 bd)).trans hK4)
      have hB04 := Lib.hid ((hB03.out.far (p := ⟨w.heap.size + 1, 1, none⟩) (by simp only; omega) (.int .i64 bd)).kept hK4 (.inr (by omega)))
      have hB14 := Lib.hid ((hB13.out.set_ 1 (.int .i64 bd)).kept hK4 (.inr (by omega)))
      have K1 : Kept (w.heap.size + 1) (w.heap.size + 2) w3 (w3.setCell ⟨w.heap.size + 1, 1, none⟩ (.int .i64 bd)) := (Kept.refl _ _ _).setIn (by simp only; omega) _
      have hS4 := Lib.hid ((hS3.out.kept hL3.out K1 (.inr (by omega))).kept (hL3.out.wide (Nat.le_refl _) K1.size) hK4 (.inr (by omega)))
      have hF4 := Lib.hid ((hF3.out.kept hS3.out hL3.out K1 (.inr (by omega))).kept (hS3.out.kept hL3.out K1 (.inr (by omega))) (hL3.out.wide (Nat.le_refl _) K1.size) hK4 (.inr (by omega)))
      have hL4 := Lib.hid ((hL3.out.wide (Nat.le_refl _) K1.size).wide (Nat.le_refl _) hK4.size)
      clear hK4 hR4 HR3 HK3 hB03 hB13 hS3 hF3 hL3 K1 hi
      by_cases h0 : i = 0
      · subst h0
        go_wp2_with fail
        refine (pick_any g _ (z + 2) _ HR4.out (by omega) (by omega)).mono ?_
        rintro e w5 ⟨i, rfl, hi, hK5, hR5⟩
        have W5 : Kept (w.heap.size + 1) (w.heap.size + 2) w5 (w5.setCell ⟨w.heap.size + 1, 1, none⟩ (.int .i64 i)) := (Kept.refl _ _ _).setIn (by simp only; omega) _
        have HR6 := Lib.hid (hR5.far (p := ⟨w.heap.size + 1, 1, none⟩) (by simp only; omega) (.int .i64 i))
        have HK6 := Lib.hid ((HK4.out.trans hK5).setNew (p := ⟨w.heap.size + 1, 1, none⟩) (by simp only; omega) (.int .i64 i))
        have hB06 := Lib.hid ((hB04.out.kept hK5 (.inr (by omega))).far (p := ⟨w.heap.size + 1, 1, none⟩) (by simp only; omega) (.int .i64 i))
        have hB15 := Lib.hid (hB14.out.kept hK5 (.inr (by omega)))
        have hB16 := Lib.hid (hB15.out.set_ 1 (.int .i64 i))
        have hS5 := Lib.hid (hS4.out.kept hL4.out hK5 (.inr (by omega)))
        have hF5 := Lib.hid (hF4.out.kept hS4.out hL4.out hK5 (.inr (by omega)))
        have hL5 := Lib.hid (hL4.out.wide (Nat.le_refl _) hK5.size)
        have hS6 := Lib.hid (hS5.out.kept hL5.out W5 (.inr (by omega)))
        have hF6 := Lib.hid (hF5.out.kept hS5.out hL5.out W5 (.inr (by omega)))
        have hL6 := Lib.hid (hL5.out.wide (Nat.le_refl _) W5.size)
        clear hi hK5 hR5 W5 HR4 HK4 hB04 hB14 hS4 hF4 hL4 hS5 hF5 hL5
        have f1 := hB15.out.frozen 1
        have d1 := hB15.out.cell 1
        have b0 := hB15.out.cell 0
        have r0 := hB06.out.cell 0
        have r1 := hB06.out.cell 1
        have q0 := hB06.out.frozen 0
        have q1 := hB06.out.frozen 1
        have b0 := hB16.out.cell 0
        have b1 := hB16.out.cell 1
        have l0 := hB06.out.lt
        have l1 := hB16.out.lt
        go_wp2
        refine bodyPost_ret (v := .agg #[.slice A1 k c1, .int .i64 i]) (by simp [results, Try.results67, go_sem, r0, r1]) rfl ?_
        have K : Kept w.heap.size (w.heap.size + 1) (w5.setCell ⟨w.heap.size + 1, 1, none⟩ (.int .i64 i)) _ := ((Kept.refl _ _ (w5.setCell ⟨w.heap.size + 1, 1, none⟩ (.int .i64 i))).setIn (p := ⟨w.heap.size, 0, none⟩) (by simp) (.slice A1 k c1)).setIn (p := ⟨w.heap.size, 1, none⟩) (by simp) (.int .i64 i)
        exact ⟨A1, k, c1, ts, i, rfl, HL.out, by omega, ⟨hS6.out.kept hL6.out K (.inr (by omega)), hF6.out.kept hS6.out hL6.out K (.inr (by omega)), (hL6.out.wide (by omega) K.size)⟩, (HK6.out.setNew (p := ⟨w.heap.size, 0, none⟩) (by simp) _).setNew (p := ⟨w.heap.size, 1, none⟩) (by simp) _, ((HR6.out.mono (by omega)).far (p := ⟨w.heap.size, 0, none⟩) (by simp only; omega) _).far (p := ⟨w.heap.size, 1, none⟩) (by simp only; omega) _⟩
      · have hb : (i == 0) = false := by simpa using h0
        have r0 := hB04.out.cell 0
        have r1 := hB04.out.cell 1
        have q0 := hB04.out.frozen 0
        have q1 := hB04.out.frozen 1
        have b0 := hB14.out.cell 0
        have b1 := hB14.out.cell 1
        have l0 := hB04.out.lt
        have l1 := hB14.out.lt
        go_wp2
        refine bodyPost_ret (v := .agg #[.slice A1 k c1, .int .i64 bd]) (by simp [results, Try.results67, go_sem, r0, r1]) rfl ?_
        have K : Kept w.heap.size (w.heap.size + 1) w4 _ := ((Kept.refl _ _ w4).setIn (p := ⟨w.heap.size, 0, none⟩) (by simp) (.slice A1 k c1)).setIn (p := ⟨w.heap.size, 1, none⟩) (by simp) (.int .i64 bd)
        exact ⟨A1, k, c1, ts, bd, rfl, HL.out, by omega, ⟨hS4.out.kept hL4.out K (.inr (by omega)), hF4.out.kept hS4.out hL4.out K (.inr (by omega)), (hL4.out.wide (by omega) K.size)⟩, (HK4.out.setNew (p := ⟨w.heap.size, 0, none⟩) (by simp) _).setNew (p := ⟨w.heap.size, 1, none⟩) (by simp) _, ((HR4.out.mono (by omega)).far (p := ⟨w.heap.size, 0, none⟩) (by simp only; omega) _).far (p := ⟨w.heap.size, 1, none⟩) (by simp only; omega) _⟩
end Go.Proofs.Ytbpkpcfhmglddaa
