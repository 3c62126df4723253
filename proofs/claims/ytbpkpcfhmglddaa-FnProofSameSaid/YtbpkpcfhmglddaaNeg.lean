/- NegateConstraint, the program's and the reference's. -/
import Derived.Test.YtbpkpcfhmglddaaTot
import Derived.Test.YtbpkpcfhmglddaaMemE
import Derived.Test.YtbpkpcfhmglddaaToT
import Derived.Test.YtbpkpcfhmglddaaLastS
import Derived.Deep.AppendLies
namespace Go.Proofs.Ytbpkpcfhmglddaa
open Go.RowKit

def negT (ts : List Tm) : List Tm := ts.map fun t => (t.1, -t.2)
def negD (ts : List Tm) (bd : Int) : Int := max 0 (sumT ts - bd + 1)
theorem negT_len (ts : List Tm) : (negT ts).length = ts.length := by simp [negT]
theorem negT_snoc (ts : List Tm) (t : Tm) : negT (ts ++ [t]) = negT ts ++ [(t.1, -t.2)] := by simp [negT]
def ngT (ts : List Tm) (bd : Int) : List Tm := if cvB ts bd = true then negT ts else []
def ngD (ts : List Tm) (bd : Int) : Int := if cvB ts bd = true then negD ts bd else 0
theorem ngT_len (ts : List Tm) (bd : Int) : (ngT ts bd).length ≤ 1048576 := by
  unfold ngT; split
  · rename_i h; have := cvB_len h; rw [negT_len]; omega
  · simp
theorem litB_neg {l : Int} (h : litB l = true) : -12 ≤ l ∧ l ≤ 12 := ((litB_iff l).1 h).2

theorem Try.infoTmN : (Try.prog.info? 38).map (fun i => (i.zero, i.size, i.bytes)) = some (some (.agg #[.int .i64 0, .int .i64 0]), 2, 16) := by kernel_rfl



set_option maxRecDepth 100000 in
set_option maxHeartbeats 4000000 in
theorem specNeg_any (A : Option Addr) (n cap : Nat) (ts : List Tm) (bd : Int) (w : World) (hn : n ≤ maxLen) (h : Seg w 2 A n (encT ts)) :
    Calls Try.prog 90 #[.agg #[.slice A n cap, .int .i64 bd]] w fun e w' => RetCB (ngT ts bd) (ngD ts bd) (cvB ts bd) w e w' := by
  by_cases hv : cvB ts bd = true
  · have HL := Lib.hid h.lenT
    have hn12 : n ≤ 12 := by have := cvB_len hv; rw [HL.out] at this; exact this
    have hs := sumT_bounds hv
    have hb := cvB_bd hv
    obtain ⟨i0, hi, hz0, hz1, hz2⟩ := info_parts Try.infoTmN
    have HI := Lib.hid hi
    have HZ0 := Lib.hid hz0
    have HZ1 := Lib.hid hz1
    have HZ2 := Lib.hid hz2
    have HV := Lib.hid hv
    clear hi hz0 hz1 hz2 hv
    have i1 : IntKind.i64.wrap (sumT ts - bd) = sumT ts - bd := IntWalk.i64_in _ (by omega)
    have i2 : IntKind.i64.wrap (sumT ts - bd + 1) = sumT ts - bd + 1 := IntWalk.i64_in _ (by omega)
    go_enter Try.func90, Try.ntmps90
    go_wp2_with fail
    refine (specCV_any A n cap ts bd _ hn ((h.alloc _).alloc _)).mono ?_
    rintro e wc ⟨rfl, hEc⟩
    have hv := HV.out
    rw [hv]
    clear hv
    obtain ⟨Bc0, Bc1⟩ := Blk.of2 hEc
    have hzc := Bc1.lt
    have KS : Hid (∀ w', Ext wc w' → (w'.cell? ⟨w.heap.size, 0, none⟩ = some (.slice A n cap) ∧ w'.cell? ⟨w.heap.size, 1, none⟩ = some (.int .i64 bd))) := fun w' e => ⟨e.cell (Bc0.cell 0), e.cell (Bc0.cell 1)⟩
    have e1 : Ext wc wc.drew := (Ext.refl _).drew
    have hBB : Hid (∀ w', Ext (wc.drew.alloc (.cells #[.slice none 0 0, .int .i64 0] 25)) w' → Blk w' wc.heap.size 25 #[.slice none 0 0, .int .i64 0]) := fun w' e => (Blk.new wc.drew 25 #[.slice none 0 0, .int .i64 0]).ext e
    have h2 := ((h.alloc (.cells #[.slice A n cap, .int .i64 bd] 25)).alloc (.cells #[.slice none 0 0, .int .i64 0] 25)).ext hEc
    go_wp2_with fail
    go_region_held3 (fun w' => w'.cell? ⟨w.heap.size, 0, none⟩ = some (.slice A n cap) ∧ w'.cell? ⟨w.heap.size, 1, none⟩ = some (.int .i64 bd))
      ((refine KS.out _ ?_; first | exact e1 | exact e1.trans hE1 | exact e1.alloc _ | exact (e1.trans hE1).alloc _ | exact (e1.alloc _).trans hE1 | exact ((e1.alloc _).trans hE1).setNew (by first | (simp; done) | (simp; omega)) _ | exact ((e1.trans hE1).alloc _).setNew (by first | (simp; done) | (simp; omega)) _ | exact (((e1.alloc _).trans hE1).setNew (by first | (simp; done) | (simp; omega)) _).setNew (by first | (simp; done) | (simp; omega)) _ | exact (((e1.trans hE1).alloc _).setNew (by first | (simp; done) | (simp; omega)) _).setNew (by first | (simp; done) | (simp; omega)) _))
      ((first | (go_at_call 75; refine (l1Total_any A n cap ts bd _ (h2.ext (by first | exact e1 | exact e1.alloc _)) HV.out).mono ?_; rintro e w1 ⟨rfl, hE1⟩; (try (have BB := hBB.out _ hE1; have bb0 := BB.cell 0; have bb1 := BB.cell 1; have fz0 := BB.frozen 0; have fz1 := BB.frozen 1; clear BB)))))
    all_goals
      generalize hz : sumT ts - bd + 1 = z
      obtain ⟨wz, gr, hW, hG, EX, BB, hgr⟩ : ∃ wz gr, Hid (_ = wz) ∧ Hid (_ = gr) ∧ Ext wc wz ∧ Blk wz gr 25 #[.slice none 0 0, .int .i64 z] ∧ w.heap.size + 2 ≤ gr := by
        first
        | exact ⟨w1.alloc (.cells #[.slice none 0 0, .int .i64 z] 25), w1.heap.size, rfl, rfl, (e1.trans hE1).alloc _, Blk.new _ _ _, by have := (e1.trans hE1).size; omega⟩
        | exact ⟨(w1.setCell ⟨wc.heap.size, 0, none⟩ (.slice none 0 0)).setCell ⟨wc.heap.size, 1, none⟩ (.int .i64 z), wc.heap.size, rfl, rfl, (((e1.alloc _).trans hE1).setNew (by first | (simp; done) | (simp; omega)) _).setNew (by first | (simp; done) | (simp; omega)) _, ((hBB.out _ hE1).set_ 0 _).set_ 1 _, by omega⟩
      rw [hW.out, hG.out]
      have hB0' := Lib.hid (Bc0.ext EX)
      have hR := Lib.hid (Bc1.ext EX)
      have hN := Lib.hid h
      have hold := Lib.hid h.old
      have EW : Ext w wz := ((((Ext.refl w).alloc _).alloc _).trans hEc).trans EX
      clear hW hG hE1 KS e1 hBB i1 i2 Bc0 Bc1 h2 EX hEc h
      go_wp2_with fail
      go_loopw [5] (fun i wr => ∃ (j : Nat), j ≤ n ∧ i = .int .i64 j ∧ Ext w wr ∧ Hid (Blk wr w.heap.size 25 #[.slice A n cap, .int .i64 bd]) ∧ Hid (Blk wr (w.heap.size + 1) 25 #[.slice none 0 0, .int .i64 0]) ∧ ∃ v, Hid (Blk wr gr 25 #[v, .int .i64 z]) ∧ Hid (wr.ownsRow (gr + 1) 38 2 v j (encT (negT (ts.take j))))) (fun i _ => n - (intOf i).toNat)
      case atStart => exact ⟨0, by omega, rfl, EW, hB0', hR, .slice none 0 0, BB, World.ownsRow_nil _ _ _ _⟩
      case round =>
        clear BB hB0' hR EW
        obtain ⟨j, hj, rfl, hE, hBx, hB0, v, hB1, hown⟩ := hrel
        have b0 := hBx.out.cell 0
        have hsz := hB1.out.lt
        by_cases hlt : j < n
        · obtain ⟨b, off, c, l, rfl, hx, c1, c2⟩ := (hN.out.ext hE).term hlt
          have hbl : b < w.heap.size := (hold.out (by omega) _ rfl).2
          have hl := litB_neg (cvB_get HV.out hx).1
          have HX := Lib.hid hx
          have b1 := hB1.out.cell 0
          have f1 := hB1.out.frozen 0
          have n1 : IntKind.i64.wrap (-l) = -l := IntWalk.i64_in _ (by omega)
          have hne : ∀ k, k < gr + 1 → some k ≠ v.ownBlock := fun k hk e => by have := (hown.out.lt k e.symm).1; omega
          have K0 : Hid (∀ W, Ext wr W → (W.cell? ⟨gr, 0, none⟩ = some v ∧ W.cell? ⟨w.heap.size, 0, none⟩ = some (.slice (some ⟨b, off, none⟩) n cap) ∧ W.cell? ⟨b, off + j * 2, none⟩ = some (.int .i64 c) ∧ W.cell? ⟨b, off + j * 2 + 1, none⟩ = some (.int .i64 l))) := fun W e => ⟨e.cell b1, e.cell b0, e.cell c1, e.cell c2⟩
          have KA : Hid (∀ W W', Ext wr W → W.grownBy W' v.ownBlock → (W'.cell? ⟨gr, 0, none⟩ = some v ∧ W'.cell? ⟨w.heap.size, 0, none⟩ = some (.slice (some ⟨b, off, none⟩) n cap) ∧ W'.cell? ⟨b, off + j * 2, none⟩ = some (.int .i64 c) ∧ W'.cell? ⟨b, off + j * 2 + 1, none⟩ = some (.int .i64 l))) := fun W W' e hg => by
            have q := K0.out W e
            have z := e.size
            refine ⟨?_, ?_, ?_, ?_⟩
            · rw [hg.cell_far _ (by simp only; omega) (hne _ (by simp only; omega))]; exact q.1
            · rw [hg.cell_far _ (by simp only; omega) (hne _ (by simp only; omega))]; exact q.2.1
            · rw [hg.cell_far _ (by simp only; omega) (hne _ (by simp only; omega))]; exact q.2.2.1
            · rw [hg.cell_far _ (by simp only; omega) (hne _ (by simp only; omega))]; exact q.2.2.2
          have j0 : (0 : Int) ≤ (j : Int) := Int.natCast_nonneg _
          have j1 : (j : Int) < (n : Int) := by omega
          clear hx
          go_wp2_with fail
          have hS0 := K0.out wr.drew (Ext.refl _).drew
          refine wp_region_Z (fun w' => w'.cell? ⟨gr, 0, none⟩ = some v ∧ w'.cell? ⟨w.heap.size, 0, none⟩ = some (.slice (some ⟨b, off, none⟩) n cap) ∧ w'.cell? ⟨b, off + j * 2, none⟩ = some (.int .i64 c) ∧ w'.cell? ⟨b, off + j * 2 + 1, none⟩ = some (.int .i64 l)) 19 (by kernel_rfl) ?_
          refine wpAnyZ_take 0 (v := ?_) (by kernel_rfl) rfl rfl (by kernel_rfl) (by kernel_rfl) (by kernel_rfl) (fun _ _ _ h => h) hS0 (Or.inl ⟨by rfl, ?_⟩) ?_
          rotate_left
          · (intro w hSw; (try dsimp only at hSw); go_simp; (try with_reducible rfl))
          try simp only [Act.put, List.setIfInBounds_toArray, List.set_cons_zero, List.set_cons_succ]
          refine wpAnyZ_take 1 (v := ?_) (by kernel_rfl) rfl rfl (by kernel_rfl) (by kernel_rfl) (by kernel_rfl) (fun _ _ _ h => h) hS0 (Or.inl ⟨by rfl, ?_⟩) ?_
          rotate_left
          · (intro w hSw; (try dsimp only at hSw); go_simp; (try with_reducible rfl))
          try simp only [Act.put, List.setIfInBounds_toArray, List.set_cons_zero, List.set_cons_succ]
          refine wpAnyZ_take 2 (v := ?_) (by kernel_rfl) rfl rfl (by kernel_rfl) (by kernel_rfl) (by kernel_rfl) (fun _ _ _ h => h) hS0 (Or.inl ⟨by rfl, ?_⟩) ?_
          rotate_left
          · (intro w hSw; (try dsimp only at hSw); go_simp; (try with_reducible rfl))
          try simp only [Act.put, List.setIfInBounds_toArray, List.set_cons_zero, List.set_cons_succ]
          refine wpAnyZ_take 3 (v := ?_) (by kernel_rfl) rfl rfl (by kernel_rfl) (by kernel_rfl) (by kernel_rfl) (fun _ _ _ h => h) hS0 (Or.inl ⟨by rfl, ?_⟩) ?_
          rotate_left
          · (intro w hSw; (try dsimp only at hSw); go_simp; (try with_reducible rfl))
          try simp only [Act.put, List.setIfInBounds_toArray, List.set_cons_zero, List.set_cons_succ]
          refine wpAnyZ_take 4 (v := ?_) (by kernel_rfl) rfl rfl (by kernel_rfl) (by kernel_rfl) (by kernel_rfl) (fun _ _ _ h => h) hS0 (Or.inl ⟨by rfl, ?_⟩) ?_
          rotate_left
          · (intro w hSw; (try dsimp only at hSw); go_simp; (try with_reducible rfl))
          try simp only [Act.put, List.setIfInBounds_toArray, List.set_cons_zero, List.set_cons_succ]
          refine wpAnyZ_take 5 (v := ?_) (by kernel_rfl) rfl rfl (by kernel_rfl) (by kernel_rfl) (by kernel_rfl) (fun _ _ _ h => h) hS0 (Or.inl ⟨by rfl, ?_⟩) ?_
          rotate_left
          · (intro w hSw; (try dsimp only at hSw); go_simp; (try with_reducible rfl))
          try simp only [Act.put, List.setIfInBounds_toArray, List.set_cons_zero, List.set_cons_succ]
          refine wpAnyZ_take 6 (v := ?_) (by kernel_rfl) rfl rfl (by kernel_rfl) (by kernel_rfl) (by kernel_rfl) (fun _ _ _ h => h) hS0 (Or.inl ⟨by rfl, ?_⟩) ?_
          rotate_left
          · (intro w hSw; (try dsimp only at hSw); go_simp; (try with_reducible rfl))
          try simp only [Act.put, List.setIfInBounds_toArray, List.set_cons_zero, List.set_cons_succ]
          refine wpAnyZ_take 7 (v := ?_) (by kernel_rfl) rfl rfl (by kernel_rfl) (by kernel_rfl) (by kernel_rfl) (fun _ _ _ h => h) hS0 (Or.inl ⟨by rfl, ?_⟩) ?_
          rotate_left
          · (intro w hSw; (try dsimp only at hSw); go_simp; (try with_reducible rfl))
          try simp only [Act.put, List.setIfInBounds_toArray, List.set_cons_zero, List.set_cons_succ]
          refine wpAnyZ_take 8 (v := ?_) (by kernel_rfl) rfl rfl (by kernel_rfl) (by kernel_rfl) (by kernel_rfl) (fun _ _ _ h => h) hS0 (Or.inl ⟨by rfl, ?_⟩) ?_
          rotate_left
          · (intro w hSw; (try dsimp only at hSw); go_simp; (try with_reducible rfl))
          try simp only [Act.put, List.setIfInBounds_toArray, List.set_cons_zero, List.set_cons_succ]
          refine wpAnyZ_take 9 (v := ?_) (by kernel_rfl) rfl rfl (by kernel_rfl) (by kernel_rfl) (by kernel_rfl) (fun _ _ _ h => h) hS0 (Or.inl ⟨by rfl, ?_⟩) ?_
          rotate_left
          · (intro w hSw; (try dsimp only at hSw); go_simp; (try with_reducible rfl))
          try simp only [Act.put, List.setIfInBounds_toArray, List.set_cons_zero, List.set_cons_succ]
          refine wpAnyZ_take 10 (v := ?_) (by kernel_rfl) rfl rfl (by kernel_rfl) (by kernel_rfl) (by kernel_rfl) (fun _ _ _ h => h) hS0 (Or.inl ⟨by rfl, ?_⟩) ?_
          rotate_left
          · (intro w hSw; (try dsimp only at hSw); go_simp; (try with_reducible rfl))
          try simp only [Act.put, List.setIfInBounds_toArray, List.set_cons_zero, List.set_cons_succ]
          refine wpAnyZ_take 11 (v := ?_) (by kernel_rfl) rfl rfl (by kernel_rfl) (by kernel_rfl) (by kernel_rfl) (fun _ _ _ h => h) hS0 (Or.inl ⟨by rfl, ?_⟩) ?_
          rotate_left
          · (intro w hSw; (try dsimp only at hSw); go_simp; (try with_reducible rfl))
          try simp only [Act.put, List.setIfInBounds_toArray, List.set_cons_zero, List.set_cons_succ]
          refine wpAnyZ_take 12 (v := ?_) (by kernel_rfl) rfl rfl (by kernel_rfl) (by kernel_rfl) (by kernel_rfl) (fun _ _ _ h => h) hS0 (Or.inl ⟨by rfl, ?_⟩) ?_
          rotate_left
          · (intro w hSw; (try dsimp only at hSw); go_simp; (try with_reducible rfl))
          try simp only [Act.put, List.setIfInBounds_toArray, List.set_cons_zero, List.set_cons_succ]
          refine wpAnyZ_take 13 (v := ?_) (by kernel_rfl) rfl rfl (by kernel_rfl) (by kernel_rfl) (by kernel_rfl) (fun _ _ _ h => h) hS0 (Or.inl ⟨by rfl, ?_⟩) ?_
          rotate_left
          · (intro w hSw; (try dsimp only at hSw); go_simp; (try with_reducible rfl))
          try simp only [Act.put, List.setIfInBounds_toArray, List.set_cons_zero, List.set_cons_succ]
          refine wpAnyZ_take 14 (v := ?_) (by kernel_rfl) rfl rfl (by kernel_rfl) (by kernel_rfl) (by kernel_rfl) (fun _ _ _ h => h) hS0 (Or.inl ⟨by rfl, ?_⟩) ?_
          rotate_left
          · (intro w hSw; (try dsimp only at hSw); go_simp; (try with_reducible rfl))
          try simp only [Act.put, List.setIfInBounds_toArray, List.set_cons_zero, List.set_cons_succ]
          refine wpAnyZ_take 15 (v := ?_) (by kernel_rfl) rfl rfl (by kernel_rfl) (by kernel_rfl) (by kernel_rfl) (fun _ _ _ h => h) hS0 (Or.inl ⟨by rfl, ?_⟩) ?_
          rotate_left
          · (intro w hSw; (try dsimp only at hSw); go_simp; (try with_reducible rfl))
          try simp only [Act.put, List.setIfInBounds_toArray, List.set_cons_zero, List.set_cons_succ]
          refine wpAnyZ_one 16 (by kernel_rfl) rfl rfl (fun K hK => ?_)
          go_simp
          refine hK.out _ _ (K0.out _ (by first | exact ((Ext.refl _).drew).alloc _ | exact ((Ext.refl _).alloc _).drew)) ?_
          clear hK K
          try simp only [Act.put, List.setIfInBounds_toArray, List.set_cons_zero, List.set_cons_succ]
          refine wpAnyZ_one 17 (by kernel_rfl) rfl rfl (fun K hK => ?_)
          refine wp_append_lies _ _ _ _ (by rfl) (gr + 1) 38 i0 _ 2 16 Try.underlying23 HI.out HZ0.out HZ1.out HZ2.out rfl (by omega) v j _ (by rfl) (hown.out.alloc _).drew
                ⟨wr.heap.size, 0, none⟩ 1 1 [.int .i64 c, .int .i64 (-l)] (by rfl) (by rfl) (World.news_of_block (cs := #[.int .i64 c, .int .i64 (-l)]) (t := 38) (fr := (0, 0)) (heap_alloc_new wr _)) (by simp [Value.oneCell'])
                (by omega) (by unfold maxLen; omega) (by omega) (by simp; omega) (wr.heap.size + 1) (by simp) ?_
          intro gg cp w1 hown1 hg1 hat hlt1
          have BB1 := own_blk ((hB1.out.alloc _).drew) ((hown.out.alloc _).drew) (by omega) hg1
          have bb1 := BB1.cell 0
          have fz1 := BB1.frozen 0
          clear BB1
          have hSa := KA.out _ _ (by first | exact ((Ext.refl _).drew).alloc _ | exact ((Ext.refl _).alloc _).drew) hg1
          refine hK.out _ _ hSa ?_
          clear hK K
          try simp only [Act.put, List.setIfInBounds_toArray, List.set_cons_zero, List.set_cons_succ]
          refine wpAnyZ_one 18 (by kernel_rfl) rfl rfl (fun K hK => ?_)
          go_simp
          refine hK.out _ _ hSa ?_
          clear hK K
          try simp only [Act.put, List.setIfInBounds_toArray, List.set_cons_zero, List.set_cons_succ]
          refine wpAnyZ_last (by kernel_rfl) (by kernel_rfl) rfl rfl (fun K hK => ?_)
          go_simp
          refine hK.out _ _ ?_
          clear hK K
          have hg2 : (wr.drew.alloc (.cells #[.int .i64 c, .int .i64 (-l)] 38)).grownBy w1 v.ownBlock := hg1
          obtain ⟨E1, K1, O1⟩ := push_box hE.drew hB1.out.drew hown.out.drew (by omega) (by omega) (by omega) hg2 hown1
          have Kx := push_blk (gc := gr) (v1 := .slice (some ⟨gg, 0, none⟩) (j + 1) cp) hBx.out.drew hown.out.drew (by omega) (by omega) hg2
          have Kr := push_blk (gc := gr) (v1 := .slice (some ⟨gg, 0, none⟩) (j + 1) cp) hB0.out.drew hown.out.drew (by omega) (by omega) hg2
          go_wp2
          go_roundw
          case rel =>
            refine ⟨j + 1, by omega, by go_num, E1, Kx, Kr, _, K1, ?_⟩
            rw [take_of_get _ _ _ HX.out, negT_snoc, encT_append]
            simpa [encT, Hid] using O1
          case measure => simp [intOf]; omega
        · obtain rfl : j = n := by omega
          obtain ⟨A1, c1, rfl⟩ := own_slice hown.out
          have b2 := hB1.out.cell 0
          have b3 := hB1.out.cell 1
          have f3 := hB1.out.frozen 1
          have r0 := hB0.out.cell 0
          have r1 := hB0.out.cell 1
          have q0 := hB0.out.frozen 0
          have q1 := hB0.out.frozen 1
          have hzr := hB0.out.lt
          by_cases hz0 : z < 0
          · have hD : Hid (ngD ts bd = 0) := by unfold ngD negD Hid; rw [if_pos HV.out, hz]; omega
            go_wp2
            refine bodyPost_ret (v := .tuple #[.agg #[.slice A1 j c1, .int .i64 0], .bool true]) (by simp [results, Try.results90, go_sem, r0, r1]) rfl ?_
            have K : Kept (w.heap.size + 1) (gr + 1) wr _ := (((Kept.refl _ _ wr).setIn (p := ⟨gr, 1, none⟩) (by simp only; omega) (.int .i64 0)).setIn (p := ⟨w.heap.size + 1, 0, none⟩) (by simp only; omega) (.slice A1 j c1)).setIn (p := ⟨w.heap.size + 1, 1, none⟩) (by simp only; omega) (.int .i64 0)
            have G := own_got2 (w := w) hown.out K (by omega) (by omega)
            rw [List.take_of_length_le (by rw [HL.out]; omega)] at G
            refine ⟨A1, j, c1, by rw [hD.out, HV.out], by unfold ngT; rw [if_pos HV.out, negT_len, HL.out], ?_, ((hE.setNew (by simp only; omega) _).setNew (by simp) _).setNew (by simp) _⟩
            unfold ngT
            rw [if_pos HV.out]
            exact G
          · have hD : Hid (ngD ts bd = z) := by unfold ngD negD Hid; rw [if_pos HV.out, hz]; omega
            go_wp2
            refine bodyPost_ret (v := .tuple #[.agg #[.slice A1 j c1, .int .i64 z], .bool true]) (by simp [results, Try.results90, go_sem, r0, r1]) rfl ?_
            have K : Kept (w.heap.size + 1) (w.heap.size + 2) wr _ := ((Kept.refl _ _ wr).setIn (p := ⟨w.heap.size + 1, 0, none⟩) (by simp) (.slice A1 j c1)).setIn (p := ⟨w.heap.size + 1, 1, none⟩) (by simp) (.int .i64 z)
            have G := own_got2 (w := w) hown.out K (by omega) (by omega)
            rw [List.take_of_length_le (by rw [HL.out]; omega)] at G
            refine ⟨A1, j, c1, by rw [hD.out, HV.out], by unfold ngT; rw [if_pos HV.out, negT_len, HL.out], ?_, (hE.setNew (by simp) _).setNew (by simp) _⟩
            unfold ngT
            rw [if_pos HV.out]
            exact G
  · have hf : cvB ts bd = false := by simpa using hv
    have HV := Lib.hid hf
    clear hv
    go_enter Try.func90, Try.ntmps90
    go_wp2_with fail
    refine (specCV_any A n cap ts bd _ hn ((h.alloc _).alloc _)).mono ?_
    rintro e w1 ⟨rfl, hE1⟩
    rw [hf]
    clear hf h
    obtain ⟨B0, B1⟩ := Blk.of2 hE1
    have r0 := B1.cell 0
    have r1 := B1.cell 1
    have q0 := B1.frozen 0
    have q1 := B1.frozen 1
    clear B0 B1
    go_wp2
    refine bodyPost_ret (v := .tuple #[.agg #[.slice none 0 0, .int .i64 0], .bool false]) (by simp [results, Try.results90, go_sem, r0, r1]) rfl ?_
    have E1 : Ext w w1 := (((Ext.refl w).alloc _).alloc _).trans hE1
    exact (RetCB.zero ((E1.setNew (by simp) _).setNew (by simp) _)).of_eq (by unfold ngT; rw [if_neg (by rw [HV.out]; simp)]) (by unfold ngD; rw [if_neg (by rw [HV.out]; simp)]) HV.out.symm
end Go.Proofs.Ytbpkpcfhmglddaa
