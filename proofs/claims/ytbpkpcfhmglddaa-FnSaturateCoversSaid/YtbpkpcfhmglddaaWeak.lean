/- WeakenConstraint, the program's and the reference's. -/
import Derived.Test.YtbpkpcfhmglddaaTot
import Derived.Test.YtbpkpcfhmglddaaMemE
import Derived.Test.YtbpkpcfhmglddaaToT
import Derived.Test.YtbpkpcfhmglddaaLastS
import Derived.Deep.AppendLies
namespace Go.Proofs.Ytbpkpcfhmglddaa
open Go.RowKit

def wkKeep (v : Int) (t : Tm) : Bool := !decide (absI t.2 = v)
def wkMap (ts : List Tm) (v : Int) : List Tm := ts.filter (wkKeep v)
def wkSum (ts : List Tm) (v : Int) : Int := sumT (ts.filter fun t => !wkKeep v t)
theorem wkMap_le (ts : List Tm) (v : Int) : (wkMap ts v).length ≤ ts.length := List.length_filter_le _ _
theorem wkMap_snoc (ts : List Tm) (t : Tm) (v : Int) : wkMap (ts ++ [t]) v = if wkKeep v t = true then wkMap ts v ++ [t] else wkMap ts v := by
  unfold wkMap; rw [List.filter_append]; split <;> simp_all
theorem wkSum_snoc (ts : List Tm) (t : Tm) (v : Int) : wkSum (ts ++ [t]) v = if wkKeep v t = true then wkSum ts v else wkSum ts v + t.1 := by
  unfold wkSum; rw [List.filter_append]; split <;> simp_all [sumT]
theorem goodB_above (ts : List Tm) : ∀ u : Int, goodB u ts = true → ∀ t ∈ ts, u < absI t.2 := by
  induction ts with
  | nil => intro u _ t ht; cases ht
  | cons x ts ih =>
    intro u h t ht
    obtain ⟨c, l⟩ := x
    rw [goodB_cons, Bool.and_eq_true, decide_eq_true_eq] at h
    obtain ⟨⟨_, h1, _⟩, h2⟩ := h
    rcases List.mem_cons.1 ht with rfl | ht
    · exact h1
    · have := ih _ h2 t ht; omega
theorem goodB_before (ts : List Tm) : ∀ (u : Int) (k : Nat) (t : Tm), goodB u ts = true → ts[k]? = some t → ∀ s ∈ ts.take k, absI s.2 < absI t.2 := by
  induction ts with
  | nil => intro u k t _ hx; simp at hx
  | cons x ts ih =>
    intro u k t h hx s hs
    obtain ⟨c, l⟩ := x
    rw [goodB_cons, Bool.and_eq_true, decide_eq_true_eq] at h
    cases k with
    | zero => simp at hs
    | succ k =>
      rw [List.take_succ_cons] at hs
      rcases List.mem_cons.1 hs with rfl | hs
      · exact goodB_above ts _ h.2 t (List.mem_of_getElem? (by simpa using hx))
      · exact ih _ k t h.2 (by simpa using hx) s hs
/-- ahead of a term, no other of its variable -/
theorem wkSum_before {ts : List Tm} {bd : Int} (h : cvB ts bd = true) {k : Nat} {c l : Int} (hx : ts[k]? = some (c, l)) : wkSum (ts.take k) (absI l) = 0 := by
  unfold cvB at h
  rw [Bool.and_eq_true] at h
  have hb := goodB_before ts 0 k (c, l) h.1 hx
  unfold wkSum
  rw [List.filter_eq_nil_iff.2 fun s hs => by
    have := hb s hs
    simp only [wkKeep, Bool.not_not, decide_eq_true_eq]
    simp only at this
    omega]
  rfl
def wkD (ts : List Tm) (bd v : Int) : Int := max 0 (bd - wkSum ts v)
def wkB (ts : List Tm) (bd v : Int) : Bool := cvB ts bd && inB v 1 12
def wcT (ts : List Tm) (bd v : Int) : List Tm := if wkB ts bd v = true then wkMap ts v else []
def wcD (ts : List Tm) (bd v : Int) : Int := if wkB ts bd v = true then wkD ts bd v else 0
theorem wcT_len (ts : List Tm) (bd v : Int) : (wcT ts bd v).length ≤ 1048576 := by
  unfold wcT; split
  · rename_i h
    unfold wkB at h
    rw [Bool.and_eq_true] at h
    have := cvB_len h.1; have := wkMap_le ts v; omega
  · simp
theorem wkSum_bounds {ts : List Tm} {bd : Int} (h : cvB ts bd = true) (k : Nat) (v : Int) : 0 ≤ wkSum (ts.take k) v ∧ wkSum (ts.take k) v ≤ 12000 := by
  have hl := cvB_len h
  unfold cvB at h
  rw [Bool.and_eq_true] at h
  have hm : ∀ t ∈ ts, 1 ≤ t.1 ∧ t.1 ≤ 1000 := fun t ht => (goodB_mem ts 0 h.1 t ht).2
  have key : ∀ us : List Tm, (∀ t ∈ us, 1 ≤ t.1 ∧ t.1 ≤ 1000) → 0 ≤ sumT us ∧ sumT us ≤ 1000 * us.length := by
    intro us
    induction us with
    | nil => intro _; simp [sumT]
    | cons x us ih =>
      intro hu
      have h1 := hu x (by simp)
      have h2 := ih fun t ht => hu t (by simp [ht])
      simp only [sumT, List.map_cons, List.sum_cons, List.length_cons] at h2 ⊢
      omega
  have k1 := key ((ts.take k).filter fun t => !wkKeep v t) fun t ht => hm t (List.mem_of_mem_take (List.mem_filter.1 ht).1)
  have k2 : ((ts.take k).filter fun t => !wkKeep v t).length ≤ 12 := by
    have a := List.length_filter_le (fun t => !wkKeep v t) (ts.take k)
    have b := List.length_take_le k ts
    have c : (ts.take k).length ≤ ts.length := by rw [List.length_take]; exact Nat.min_le_right _ _
    omega
  unfold wkSum
  omega

theorem Try.infoTmW : (Try.prog.info? 38).map (fun i => (i.zero, i.size, i.bytes)) = some (some (.agg #[.int .i64 0, .int .i64 0]), 2, 16) := by kernel_rfl


set_option maxRecDepth 100000 in
set_option maxHeartbeats 4000000 in
theorem specWk_any (A : Option Addr) (n cap : Nat) (ts : List Tm) (bd u : Int) (w : World) (hn : n ≤ maxLen) (h : Seg w 2 A n (encT ts)) :
    Calls Try.prog 89 #[.agg #[.slice A n cap, .int .i64 bd], .int .i64 u] w fun e w' => RetCB (wcT ts bd u) (wcD ts bd u) (wkB ts bd u) w e w' := by
  by_cases hk : wkB ts bd u = true
  · have hv : cvB ts bd = true := by unfold wkB at hk; rw [Bool.and_eq_true] at hk; exact hk.1
    have hu : inB u 1 12 = true := by unfold wkB at hk; rw [Bool.and_eq_true] at hk; exact hk.2
    have hu' : 1 ≤ u ∧ u ≤ 12 := by simpa [inB] using hu
    have HL := Lib.hid h.lenT
    have hn12 : n ≤ 12 := by have := cvB_len hv; rw [HL.out] at this; exact this
    have hb := cvB_bd hv
    obtain ⟨i0, hi, hz0, hz1, hz2⟩ := info_parts Try.infoTmW
    have HI := Lib.hid hi
    have HZ0 := Lib.hid hz0
    have HZ1 := Lib.hid hz1
    have HZ2 := Lib.hid hz2
    have HV := Lib.hid hv
    have HK := Lib.hid hk
    have hold := Lib.hid h.old
    clear hi hz0 hz1 hz2 hv hk hu
    go_enter Try.func89, Try.ntmps89
    go_wp2_with fail
    refine (specCV_any A n cap ts bd _ hn ((h.alloc _).alloc _)).mono ?_
    rintro e wc ⟨rfl, hEc⟩
    have hv := HV.out
    rw [hv]
    clear hv
    obtain ⟨B0, B1⟩ := Blk.of2 hEc
    have b0 := B0.cell 0
    have b1 := B0.cell 1
    have hzc := B1.lt
    have hzb := B0.lt
    have EW : Ext w wc := (((Ext.refl w).alloc _).alloc _).trans hEc
    have HB0 := Lib.hid B0
    have HB1 := Lib.hid B1
    have hN := Lib.hid h
    clear B0 B1 h hEc
    go_wp2_with fail
    generalize hgr : wc.heap.size = gr at *
    go_loopw [7] (fun i wr => ∃ (j m : Nat) (z : Int), j ≤ n ∧ m ≤ j ∧ i = .int .i64 j ∧ -12000 ≤ z ∧ z ≤ 20000 ∧ Ext w wr ∧ Hid (Blk wr w.heap.size 25 #[.slice A n cap, .int .i64 bd]) ∧ Hid (Blk wr (w.heap.size + 1) 25 #[.slice none 0 0, .int .i64 0]) ∧ Hid (z = bd - wkSum (ts.take j) u) ∧ ∃ v, Hid (Blk wr gr 25 #[v, .int .i64 z]) ∧ Hid (wr.ownsRow (gr + 1) 38 2 v m (encT (wkMap (ts.take j) u)))) (fun i _ => n - (intOf i).toNat)
    case atStart => exact ⟨0, 0, bd, by omega, by omega, rfl, by omega, by omega, EW.alloc _, HB0.out.alloc _, HB1.out.alloc _, by unfold wkSum Hid; simp [sumT], .slice none 0 0, by rw [← hgr]; exact Blk.new _ _ _, World.ownsRow_nil _ _ _ _⟩
    case round =>
      clear b0 b1 EW HB0 HB1 hgr
      obtain ⟨j, m, z, hj, hmj, rfl, hz1, hz2, hE, hBx, hB0, hZ, v, hB1, hown⟩ := hrel
      have b0 := hBx.out.cell 0
      have b1 := hB1.out.cell 0
      have b3 := hB1.out.cell 1
      have f1 := hB1.out.frozen 0
      have f3 := hB1.out.frozen 1
      have hsz := hB1.out.lt
      by_cases hlt : j < n
      · obtain ⟨b, off, c, l, rfl, hx, c1, c2⟩ := (hN.out.ext hE).term hlt
        have hbl : b < w.heap.size := (hold.out (by omega) _ rfl).2
        obtain ⟨hl, hc1, hc2⟩ := cvB_get HV.out hx
        have ha := absI_pos hl
        have hl2 := ((litB_iff l).1 hl).2
        have HX := Lib.hid hx
        clear hx
        have j0 : (0 : Int) ≤ (j : Int) := Int.natCast_nonneg _
        have j1 : (j : Int) < (n : Int) := by omega
        by_cases hq : absI l = u
        · have hq' : (absI l == u) = true := by simp [hq]
          have hz' : Hid (z - c = bd - wkSum (ts.take (j + 1)) u) := by
            unfold Hid
            have h1 := hZ.out
            rw [take_of_get _ _ _ HX.out, wkSum_snoc, if_neg (by simp [wkKeep, hq])]
            simp only
            omega
          have hzb : -12000 ≤ z - c ∧ z - c ≤ 20000 := by
            have h1 := hz'.out
            have h2 := wkSum_bounds HV.out (j + 1) u
            omega
          have n1 : IntKind.i64.wrap (z - c) = z - c := IntWalk.i64_in _ (by omega)
          have K0 : Hid (∀ W, Ext wr W → (W.cell? ⟨gr, 1, none⟩ = some (.int .i64 z) ∧ W.cell? ⟨w.heap.size, 0, none⟩ = some (.slice (some ⟨b, off, none⟩) n cap) ∧ W.cell? ⟨b, off + j * 2, none⟩ = some (.int .i64 c) ∧ W.cell? ⟨b, off + j * 2 + 1, none⟩ = some (.int .i64 l))) := fun W e => ⟨e.cell b3, e.cell b0, e.cell c1, e.cell c2⟩
          go_wp2_with (first | (go_at_call 22; refine (l1Abs_any _ _ (by omega) (by omega)).mono ?_; rintro e w1 ⟨rfl, rfl⟩))
          have hS0 := K0.out wr.drew (Ext.refl _).drew
          refine wp_region_Z (fun w' => (w'.cell? ⟨gr, 1, none⟩ = some (.int .i64 z) ∧ w'.cell? ⟨w.heap.size, 0, none⟩ = some (.slice (some ⟨b, off, none⟩) n cap) ∧ w'.cell? ⟨b, off + j * 2, none⟩ = some (.int .i64 c) ∧ w'.cell? ⟨b, off + j * 2 + 1, none⟩ = some (.int .i64 l))) 10 (by kernel_rfl) ?_
          refine wpAnyZ_take 0 (v := ?_) (by kernel_rfl) rfl rfl (by kernel_rfl) (by kernel_rfl) (by kernel_rfl) (fun _ _ _ h => h) hS0 (Or.inl ⟨by rfl, ?_⟩) ?_
          rotate_left
          · (intro w hSw; (try dsimp only at hSw); go_simp; (try with_reducible rfl))
          try simp only [Act.put, List.setIfInBounds_toArray, List.set_cons_zero, List.set_cons_succ]
          refine wpAnyZ_take 1 (v := ?_) (by kernel_rfl) rfl rfl (by kernel_rfl) (by kernel_rfl) (by kernel_rfl) (fun _ _ _ h => h) hS0 (Or.inl ⟨by rfl, ?_⟩) ?_
          rotate_left
          · (intro w hSw; (try dsimp only at hSw); go_simp; (try with_reducible rfl))
          try simp only [Act.put, List.setIfInBounds_toArray, List.set_cons_zero, List.set_cons_succ]
          refine wpAnyZ_take 2 (v := ?_) (by kernel_rfl) rfl rfl (by kernel_rfl) (by kernel_rfl) (by kernel_rfl) (fun _ _ _ h => h) hS0 (Or.inl ⟨by rfl, ?_⟩) ?_
          rotate_left
          · (intro w hSw; (try dsimp only at hSw); go_simp; (try with_reducible rfl))
          try simp only [Act.put, List.setIfInBounds_toArray, List.set_cons_zero, List.set_cons_succ]
          refine wpAnyZ_take 3 (v := ?_) (by kernel_rfl) rfl rfl (by kernel_rfl) (by kernel_rfl) (by kernel_rfl) (fun _ _ _ h => h) hS0 (Or.inl ⟨by rfl, ?_⟩) ?_
          rotate_left
          · (intro w hSw; (try dsimp only at hSw); go_simp; (try with_reducible rfl))
          try simp only [Act.put, List.setIfInBounds_toArray, List.set_cons_zero, List.set_cons_succ]
          refine wpAnyZ_take 4 (v := ?_) (by kernel_rfl) rfl rfl (by kernel_rfl) (by kernel_rfl) (by kernel_rfl) (fun _ _ _ h => h) hS0 (Or.inl ⟨by rfl, ?_⟩) ?_
          rotate_left
          · (intro w hSw; (try dsimp only at hSw); go_simp; (try with_reducible rfl))
          try simp only [Act.put, List.setIfInBounds_toArray, List.set_cons_zero, List.set_cons_succ]
          refine wpAnyZ_take 5 (v := ?_) (by kernel_rfl) rfl rfl (by kernel_rfl) (by kernel_rfl) (by kernel_rfl) (fun _ _ _ h => h) hS0 (Or.inl ⟨by rfl, ?_⟩) ?_
          rotate_left
          · (intro w hSw; (try dsimp only at hSw); go_simp; (try with_reducible rfl))
          try simp only [Act.put, List.setIfInBounds_toArray, List.set_cons_zero, List.set_cons_succ]
          refine wpAnyZ_take 6 (v := ?_) (by kernel_rfl) rfl rfl (by kernel_rfl) (by kernel_rfl) (by kernel_rfl) (fun _ _ _ h => h) hS0 (Or.inl ⟨by rfl, ?_⟩) ?_
          rotate_left
          · (intro w hSw; (try dsimp only at hSw); go_simp; (try with_reducible rfl))
          try simp only [Act.put, List.setIfInBounds_toArray, List.set_cons_zero, List.set_cons_succ]
          refine wpAnyZ_take 7 (v := ?_) (by kernel_rfl) rfl rfl (by kernel_rfl) (by kernel_rfl) (by kernel_rfl) (fun _ _ _ h => h) hS0 (Or.inl ⟨by rfl, ?_⟩) ?_
          rotate_left
          · (intro w hSw; (try dsimp only at hSw); go_simp; (try with_reducible rfl))
          try simp only [Act.put, List.setIfInBounds_toArray, List.set_cons_zero, List.set_cons_succ]
          refine wpAnyZ_take 8 (v := ?_) (by kernel_rfl) rfl rfl (by kernel_rfl) (by kernel_rfl) (by kernel_rfl) (fun _ _ _ h => h) hS0 (Or.inl ⟨by rfl, ?_⟩) ?_
          rotate_left
          · (intro w hSw; (try dsimp only at hSw); go_simp; (try with_reducible rfl))
          try simp only [Act.put, List.setIfInBounds_toArray, List.set_cons_zero, List.set_cons_succ]
          refine wpAnyZ_take 9 (v := ?_) (by kernel_rfl) rfl rfl (by kernel_rfl) (by kernel_rfl) (by kernel_rfl) (fun _ _ _ h => h) hS0 (Or.inl ⟨by rfl, ?_⟩) ?_
          rotate_left
          · (intro w hSw; (try dsimp only at hSw); go_simp; (try with_reducible rfl))
          try simp only [Act.put, List.setIfInBounds_toArray, List.set_cons_zero, List.set_cons_succ]
          refine wpAnyZ_last (by kernel_rfl) (by kernel_rfl) rfl rfl (fun K hK => ?_)
          go_simp
          refine hK.out _ _ ?_
          clear hK K
          go_wp2
          go_roundw
          case rel =>
            refine ⟨j + 1, m, z - c, by omega, by omega, by go_num, by omega, by omega, hE.drew.setNew (by simp only; omega) _, hBx.out.drew.far (by simp only; omega) _, hB0.out.drew.far (by simp only; omega) _, hz', v, hB1.out.drew.set_ 1 _, ?_⟩
            rw [take_of_get _ _ _ HX.out, wkMap_snoc, if_neg (by simp [wkKeep, hq])]
            exact own_far hown.out.drew (by simp only; omega) _
          case measure => simp [intOf]; omega
        · have hq' : (absI l == u) = false := by simp [hq]
          have hz' : Hid (z = bd - wkSum (ts.take (j + 1)) u) := by
            unfold Hid
            rw [take_of_get _ _ _ HX.out, wkSum_snoc, if_pos (by simp [wkKeep, hq])]
            exact hZ.out
          have hne : ∀ k, k < gr + 1 → some k ≠ v.ownBlock := fun k hk e => by have := (hown.out.lt k e.symm).1; omega
          have K0 : Hid (∀ W, Ext wr W → (W.cell? ⟨gr, 0, none⟩ = some v ∧ W.cell? ⟨w.heap.size, 0, none⟩ = some (.slice (some ⟨b, off, none⟩) n cap) ∧ W.cell? ⟨b, off + j * 2, none⟩ = some (.int .i64 c) ∧ W.cell? ⟨b, off + j * 2 + 1, none⟩ = some (.int .i64 l))) := fun W e => ⟨e.cell b1, e.cell b0, e.cell c1, e.cell c2⟩
          have KA : Hid (∀ W W', Ext wr W → W.grownBy W' v.ownBlock → (W'.cell? ⟨gr, 0, none⟩ = some v ∧ W'.cell? ⟨w.heap.size, 0, none⟩ = some (.slice (some ⟨b, off, none⟩) n cap) ∧ W'.cell? ⟨b, off + j * 2, none⟩ = some (.int .i64 c) ∧ W'.cell? ⟨b, off + j * 2 + 1, none⟩ = some (.int .i64 l))) := fun W W' e hg => by
            have q := K0.out W e
            have z := e.size
            refine ⟨?_, ?_, ?_, ?_⟩
            · rw [hg.cell_far _ (by simp only; omega) (hne _ (by simp only; omega))]; exact q.1
            · rw [hg.cell_far _ (by simp only; omega) (hne _ (by simp only; omega))]; exact q.2.1
            · rw [hg.cell_far _ (by simp only; omega) (hne _ (by simp only; omega))]; exact q.2.2.1
            · rw [hg.cell_far _ (by simp only; omega) (hne _ (by simp only; omega))]; exact q.2.2.2
          go_wp2_with (first | (go_at_call 22; refine (l1Abs_any _ _ (by omega) (by omega)).mono ?_; rintro e w1 ⟨rfl, rfl⟩))
          have hS0 := K0.out wr.drew (Ext.refl _).drew
          refine wp_region_Z (fun w' => (w'.cell? ⟨gr, 0, none⟩ = some v ∧ w'.cell? ⟨w.heap.size, 0, none⟩ = some (.slice (some ⟨b, off, none⟩) n cap) ∧ w'.cell? ⟨b, off + j * 2, none⟩ = some (.int .i64 c) ∧ w'.cell? ⟨b, off + j * 2 + 1, none⟩ = some (.int .i64 l))) 10 (by kernel_rfl) ?_
          refine wpAnyZ_take 0 (v := ?_) (by kernel_rfl) rfl rfl (by kernel_rfl) (by kernel_rfl) (by kernel_rfl) (fun _ _ _ h => h) hS0 (Or.inl ⟨by rfl, ?_⟩) ?_
          rotate_left
          · (intro w hSw; (try dsimp only at hSw); go_simp; (try with_reducible rfl))
          try simp only [Act.put, List.setIfInBounds_toArray, List.set_cons_zero, List.set_cons_succ]
          refine wpAnyZ_take 1 (v := ?_) (by kernel_rfl) rfl rfl (by kernel_rfl) (by kernel_rfl) (by kernel_rfl) (fun _ _ _ h => h) hS0 (Or.inl ⟨by rfl, ?_⟩) ?_
          rotate_left
          · (intro w hSw; (try dsimp only at hSw); go_simp; (try with_reducible rfl))
          try simp only [Act.put, List.setIfInBounds_toArray, List.set_cons_zero, List.set_cons_succ]
          refine wpAnyZ_take 2 (v := ?_) (by kernel_rfl) rfl rfl (by kernel_rfl) (by kernel_rfl) (by kernel_rfl) (fun _ _ _ h => h) hS0 (Or.inl ⟨by rfl, ?_⟩) ?_
          rotate_left
          · (intro w hSw; (try dsimp only at hSw); go_simp; (try with_reducible rfl))
          try simp only [Act.put, List.setIfInBounds_toArray, List.set_cons_zero, List.set_cons_succ]
          refine wpAnyZ_take 3 (v := ?_) (by kernel_rfl) rfl rfl (by kernel_rfl) (by kernel_rfl) (by kernel_rfl) (fun _ _ _ h => h) hS0 (Or.inl ⟨by rfl, ?_⟩) ?_
          rotate_left
          · (intro w hSw; (try dsimp only at hSw); go_simp; (try with_reducible rfl))
          try simp only [Act.put, List.setIfInBounds_toArray, List.set_cons_zero, List.set_cons_succ]
          refine wpAnyZ_take 4 (v := ?_) (by kernel_rfl) rfl rfl (by kernel_rfl) (by kernel_rfl) (by kernel_rfl) (fun _ _ _ h => h) hS0 (Or.inl ⟨by rfl, ?_⟩) ?_
          rotate_left
          · (intro w hSw; (try dsimp only at hSw); go_simp; (try with_reducible rfl))
          try simp only [Act.put, List.setIfInBounds_toArray, List.set_cons_zero, List.set_cons_succ]
          refine wpAnyZ_take 5 (v := ?_) (by kernel_rfl) rfl rfl (by kernel_rfl) (by kernel_rfl) (by kernel_rfl) (fun _ _ _ h => h) hS0 (Or.inl ⟨by rfl, ?_⟩) ?_
          rotate_left
          · (intro w hSw; (try dsimp only at hSw); go_simp; (try with_reducible rfl))
          try simp only [Act.put, List.setIfInBounds_toArray, List.set_cons_zero, List.set_cons_succ]
          refine wpAnyZ_take 6 (v := ?_) (by kernel_rfl) rfl rfl (by kernel_rfl) (by kernel_rfl) (by kernel_rfl) (fun _ _ _ h => h) hS0 (Or.inl ⟨by rfl, ?_⟩) ?_
          rotate_left
          · (intro w hSw; (try dsimp only at hSw); go_simp; (try with_reducible rfl))
          try simp only [Act.put, List.setIfInBounds_toArray, List.set_cons_zero, List.set_cons_succ]
          refine wpAnyZ_one 7 (by kernel_rfl) rfl rfl (fun K hK => ?_)
          go_simp
          refine hK.out _ _ (K0.out _ (by first | exact ((Ext.refl _).drew).alloc _ | exact ((Ext.refl _).alloc _).drew)) ?_
          clear hK K
          try simp only [Act.put, List.setIfInBounds_toArray, List.set_cons_zero, List.set_cons_succ]
          refine wpAnyZ_one 8 (by kernel_rfl) rfl rfl (fun K hK => ?_)
          refine wp_append_lies _ _ _ _ (by rfl) (gr + 1) 38 i0 _ 2 16 Try.underlying23 HI.out HZ0.out HZ1.out HZ2.out rfl (by omega) v m _ (by rfl) (hown.out.alloc _).drew
                ⟨wr.heap.size, 0, none⟩ 1 1 [.int .i64 c, .int .i64 l] (by rfl) (by rfl) (World.news_of_block (cs := #[.int .i64 c, .int .i64 l]) (t := 38) (fr := (0, 0)) (heap_alloc_new wr _)) (by simp [Value.oneCell'])
                (by omega) (by unfold maxLen; omega) (by omega) (by simp; omega) (wr.heap.size + 1) (by simp) ?_
          intro gg cp w1 hown1 hg1 hat hlt1
          have BB1 := own_blk ((hB1.out.alloc _).drew) ((hown.out.alloc _).drew) (by omega) hg1
          have bb1 := BB1.cell 0
          have fz1 := BB1.frozen 0
          clear BB1
          have hSa := KA.out _ _ (by first | exact ((Ext.refl _).drew).alloc _ | exact ((Ext.refl _).alloc _).drew) hg1
          refine hK.out _ _ hSa ?_
          clear hK K
          try simp only [Act.put, List.setIfInBounds_toArray, List.set_cons_zero, List.set_cons_succ]
          refine wpAnyZ_one 9 (by kernel_rfl) rfl rfl (fun K hK => ?_)
          go_simp
          refine hK.out _ _ hSa ?_
          clear hK K
          try simp only [Act.put, List.setIfInBounds_toArray, List.set_cons_zero, List.set_cons_succ]
          refine wpAnyZ_last (by kernel_rfl) (by kernel_rfl) rfl rfl (fun K hK => ?_)
          go_simp
          refine hK.out _ _ ?_
          clear hK K
          have hg2 : (wr.drew.alloc (.cells #[.int .i64 c, .int .i64 l] 38)).grownBy w1 v.ownBlock := hg1
          obtain ⟨E1, K1, O1⟩ := push_box hE.drew hB1.out.drew hown.out.drew (by omega) (by omega) (by omega) hg2 hown1
          have Kx := push_blk (gc := gr) (v1 := .slice (some ⟨gg, 0, none⟩) (m + 1) cp) hBx.out.drew hown.out.drew (by omega) (by omega) hg2
          have Kr := push_blk (gc := gr) (v1 := .slice (some ⟨gg, 0, none⟩) (m + 1) cp) hB0.out.drew hown.out.drew (by omega) (by omega) hg2
          go_wp2
          go_roundw
          case rel =>
            refine ⟨j + 1, m + 1, z, by omega, by omega, by go_num, hz1, hz2, E1, Kx, Kr, hz', _, K1, ?_⟩
            rw [take_of_get _ _ _ HX.out, wkMap_snoc, if_pos (by simp [wkKeep, hq]), encT_append]
            simpa [encT, Hid] using O1
          case measure => simp [intOf]; omega
      · obtain rfl : j = n := by omega
        obtain ⟨A1, c1, rfl⟩ := own_slice hown.out
        have r0 := hB0.out.cell 0
        have r1 := hB0.out.cell 1
        have q0 := hB0.out.frozen 0
        have q1 := hB0.out.frozen 1
        have hz := hB0.out.lt
        have hZ' := hZ.out
        have hm := own_len hown.out
        rw [List.take_of_length_le (by rw [HL.out]; omega)] at hZ' hm
        rw [encT_length] at hm
        have HZ' := Lib.hid hZ'
        have HM := Lib.hid hm
        clear hZ' hm
        by_cases hz0 : z < 0
        · have hD : Hid (wcD ts bd u = 0) := by have := HZ'.out; unfold wcD wkD Hid; rw [if_pos HK.out]; omega
          go_wp2
          refine bodyPost_ret (v := .tuple #[.agg #[.slice A1 m c1, .int .i64 0], .bool true]) (by simp [results, Try.results89, go_sem, r0, r1]) rfl ?_
          have K : Kept (w.heap.size + 1) (gr + 1) wr _ := (((Kept.refl _ _ wr).setIn (p := ⟨gr, 1, none⟩) (by simp only; omega) (.int .i64 0)).setIn (p := ⟨w.heap.size + 1, 0, none⟩) (by simp only; omega) (.slice A1 m c1)).setIn (p := ⟨w.heap.size + 1, 1, none⟩) (by simp only; omega) (.int .i64 0)
          have G := own_got2 (w := w) hown.out K (by omega) (by omega)
          rw [List.take_of_length_le (by rw [HL.out]; omega)] at G
          refine ⟨A1, m, c1, by rw [hD.out, HK.out], by unfold wcT; rw [if_pos HK.out]; have := HM.out; omega, ?_, ((hE.setNew (by simp only; omega) _).setNew (by simp) _).setNew (by simp) _⟩
          unfold wcT
          rw [if_pos HK.out]
          exact G
        · have hD : Hid (wcD ts bd u = z) := by have := HZ'.out; unfold wcD wkD Hid; rw [if_pos HK.out]; omega
          go_wp2
          refine bodyPost_ret (v := .tuple #[.agg #[.slice A1 m c1, .int .i64 z], .bool true]) (by simp [results, Try.results89, go_sem, r0, r1]) rfl ?_
          have K : Kept (w.heap.size + 1) (w.heap.size + 2) wr _ := ((Kept.refl _ _ wr).setIn (p := ⟨w.heap.size + 1, 0, none⟩) (by simp) (.slice A1 m c1)).setIn (p := ⟨w.heap.size + 1, 1, none⟩) (by simp) (.int .i64 z)
          have G := own_got2 (w := w) hown.out K (by omega) (by omega)
          rw [List.take_of_length_le (by rw [HL.out]; omega)] at G
          refine ⟨A1, m, c1, by rw [hD.out, HK.out], by unfold wcT; rw [if_pos HK.out]; have := HM.out; omega, ?_, (hE.setNew (by simp) _).setNew (by simp) _⟩
          unfold wcT
          rw [if_pos HK.out]
          exact G
  · by_cases hv : cvB ts bd = true
    all_goals
      have hkf : wkB ts bd u = false := by simpa using hk
      have HK := Lib.hid hkf
      clear hk hkf
    · have hv1 := Lib.hid hv
      have hu : Hid (inB u 1 12 = false) := by
        have a1 := HK.out
        unfold wkB at a1
        rw [hv, Bool.true_and] at a1
        exact a1
      clear hv
      go_enter Try.func89, Try.ntmps89
      go_wp2_with fail
      refine (specCV_any A n cap ts bd _ hn ((h.alloc _).alloc _)).mono ?_
      rintro e w1 ⟨rfl, hE1⟩
      have hv2 := hv1.out
      rw [hv2]
      clear hv2 h
      obtain ⟨B0, B1⟩ := Blk.of2 hE1
      have r0 := B1.cell 0
      have r1 := B1.cell 1
      have q0 := B1.frozen 0
      have q1 := B1.frozen 1
      clear B0 B1
      have hux : u < 1 ∨ 12 < u := by
        have := hu.out
        simp [inB] at this
        omega
      rcases hux with hux | hux
      all_goals
       go_wp2
       refine bodyPost_ret (v := .tuple #[.agg #[.slice none 0 0, .int .i64 0], .bool false]) (by simp [results, Try.results89, go_sem, r0, r1]) rfl ?_
       have E1 : Ext w w1 := (((Ext.refl w).alloc _).alloc _).trans hE1
       exact (RetCB.zero ((E1.setNew (by simp) _).setNew (by simp) _)).of_eq (by unfold wcT; rw [if_neg (by rw [HK.out]; simp)]) (by unfold wcD; rw [if_neg (by rw [HK.out]; simp)]) HK.out.symm
    · have hf : cvB ts bd = false := by simpa using hv
      clear hv
      go_enter Try.func89, Try.ntmps89
      go_wp2_with fail
      refine (specCV_any A n cap ts bd _ hn ((h.alloc _).alloc _)).mono ?_
      rintro e w1 ⟨rfl, hE1⟩
      rw [hf]
      clear hf h
      obtain ⟨B0, B1⟩ := Blk.of2 hE1
      have r0 := B1.cell 0
      have r1 := B1.cell 1
      have q0 := B1.frozen 0
      have q1 := B1.frozen 1
      clear B0 B1
      go_wp2
      refine bodyPost_ret (v := .tuple #[.agg #[.slice none 0 0, .int .i64 0], .bool false]) (by simp [results, Try.results89, go_sem, r0, r1]) rfl ?_
      have E1 : Ext w w1 := (((Ext.refl w).alloc _).alloc _).trans hE1
      exact (RetCB.zero ((E1.setNew (by simp) _).setNew (by simp) _)).of_eq (by unfold wcT; rw [if_neg (by rw [HK.out]; simp)]) (by unfold wcD; rw [if_neg (by rw [HK.out]; simp)]) HK.out.symm
end Go.Proofs.Ytbpkpcfhmglddaa
