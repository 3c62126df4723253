/- Normal forms: l1Net, l1Normal, normal, NormalForm, the program's and the reference's. -/
import Derived.Test.YtbpkpcfhmglddaaPlNF
import Derived.Test.YtbpkpcfhmglddaaCVs
import Derived.Test.YtbpkpcfhmglddaaMk
import Derived.Test.YtbpkpcfhmglddaaSetAt
import Derived.Test.YtbpkpcfhmglddaaLastS
import Derived.Test.YtbpkpcfhmglddaaMemE
import Derived.Test.YtbpkpcfhmglddaaApp
namespace Go.Proofs.Ytbpkpcfhmglddaa
open Go.RowKit

theorem encI_setA (p : List Int) (i : Nat) (z : Int) : (encI p).toArray.setIfInBounds i (.int .i64 z) = (encI (p.set i z)).toArray := by
  rw [List.setIfInBounds_toArray]
  unfold encI; rw [List.map_set]
theorem netL0 : (encI (netL [])).toArray = #[.int .i64 0, .int .i64 0, .int .i64 0, .int .i64 0, .int .i64 0, .int .i64 0, .int .i64 0, .int .i64 0, .int .i64 0, .int .i64 0, .int .i64 0, .int .i64 0, .int .i64 0] := by
  rw [netL_nil]; rfl
theorem blk_net {w : World} {g : Nat} {t : TypeId} {ts : List Tm} (h : Blk w g t (encI (netL ts)).toArray) {i : Nat} (hi : i < 13) : w.cell? ⟨g, i, none⟩ = some (.int .i64 (netI ts i)) := by
  rw [h.cell]
  have := netL_at ts i hi
  simp [encI, this]
theorem blk_net_set {w : World} {g : Nat} {t : TypeId} {ts : List Tm} {c l : Int} (h : Blk w g t (encI (netL ts)).toArray) (hl : litB l = true) {m : Nat} (hm : (absI l).toNat = m) {z : Int} (hz : netI ts (absI l) + (if l < 0 then -c else c) = z) :
    Blk (w.setCell ⟨g, m, none⟩ (.int .i64 z)) g t (encI (netL (ts ++ [(c, l)]))).toArray := by
  have := h.set_ m (.int .i64 z)
  rw [encI_setA] at this
  rw [netL_snoc ts c l hl, hm, hz]; exact this

/-- 13 sums in memory of the call's own, and a bound -/
def RetNet (ts : List Tm) (bd : Int) (w : World) (e : Ending) (w' : World) : Prop :=
  ∃ A c, e = .returned (.tuple #[.slice A 13 c, .int .i64 (bd - negI ts)]) ∧ Got w w' 1 A 13 (encI (netL ts)) ∧ Ext w w'

set_option maxRecDepth 100000 in
set_option maxHeartbeats 4000000 in
theorem l1Net_any (A : Option Addr) (n cap : Nat) (ts : List Tm) (bd : Int) (w : World) (hn : n ≤ 40) (h : Seg w 2 A n (encT ts)) (hs : smT ts = true) (hb : -50000 ≤ bd ∧ bd ≤ 50000) :
    Calls Try.prog 92 #[.slice A n cap, .int .i64 bd] w (RetNet ts bd w) := by
  have HL := Lib.hid h.lenT
  have HS := Lib.hid h
  have HM := Lib.hid hs
  have hmk := Try.mkI13 w
  have HB0 := Lib.hid (Blk.new w 3 #[.int .i64 0, .int .i64 0, .int .i64 0, .int .i64 0, .int .i64 0, .int .i64 0, .int .i64 0, .int .i64 0, .int .i64 0, .int .i64 0, .int .i64 0, .int .i64 0, .int .i64 0])
  rw [← netL0] at HB0
  obtain ⟨hb0, hb1⟩ := hb
  clear h hs
  go_enter Try.func92, Try.ntmps92
  go_wp2_with fail
  clear hmk
  go_loopw [1, 7] (fun b i wr => ∃ (k : Nat) (z : Int), k ≤ n ∧ i = .int .i64 k ∧ b = .int .i64 z ∧ Hid (z = bd - negI (ts.take k)) ∧ Ext w wr ∧ Hid (Blk wr w.heap.size 3 (encI (netL (ts.take k))).toArray)) (fun _ i _ => n - (intOf i).toNat)
  case atStart => exact ⟨0, bd, by omega, rfl, rfl, by simp [Hid, negI], (Ext.refl _).alloc _, HB0.out⟩
  case round =>
    obtain ⟨k, z, hk, rfl, rfl, hz, hE, hB⟩ := hrel
    have hzb : -100000 ≤ z ∧ z ≤ 100000 := by
      have := negI_bd (smT_take HM.out k)
      have h2 := hz.out
      rw [List.length_take] at this
      omega
    by_cases hlt : k < n
    · obtain ⟨b, off, c, l, rfl, hx, c1, c2⟩ := (HS.out.ext hE).term hlt
      have hsm := smT_at HM.out _ (List.mem_of_getElem? hx)
      have HT := Lib.hid (take_of_get _ _ _ hx)
      have hnb := fun v => netI_bd (smT_take HM.out k) v
      have hlk : (ts.take k).length ≤ 40 := by rw [List.length_take]; omega
      obtain ⟨m, hm, hlm⟩ := lit_cases hsm.1
      have hl := hsm.1
      obtain ⟨hc0, hc1⟩ := hsm.2
      simp only at hl hc0 hc1 hlm
      have nb := hnb ((m + 1 : Nat) : Int)
      have n1 := blk_net hB.out (i := m + 1) (by omega)
      have f1 := hB.out.frozen (m + 1)
      obtain ⟨y, hy⟩ : ∃ y, netI (ts.take k) ((m + 1 : Nat) : Int) = y := ⟨_, rfl⟩
      rw [hy] at nb n1
      have hyb : -40000 ≤ y ∧ y ≤ 40000 := by omega
      have HY := Lib.hid hy
      have HLt := Lib.hid hl
      have hzw := hB.out.lt
      clear hx hsm hnb hlk nb hy hl
      have HBX := Lib.hid (Blk.new wr 38 #[.int .i64 c, .int .i64 l])
      have EX := (Ext.refl wr).alloc (.cells #[.int .i64 c, .int .i64 l] 38)
      rcases hlm with rfl | rfl
      · have i1 : IntKind.i64.wrap (y + c) = y + c := IntWalk.i64_in _ (by omega)
        have g0 : (0 : Int) ≤ (m : Int) + 1 := by omega
        have g1 : (m : Int) + 1 < 13 := by omega
        have gp : (0 : Int) < (m : Int) + 1 := by omega
        have gt : ((m : Int) + 1).toNat = m + 1 := by omega
        have HR : Hid (Blk (((wr.setCell ⟨w.heap.size, m + 1, none⟩ (.int .i64 (y + c))).alloc (.cells #[.int .i64 c, .int .i64 ((m : Int) + 1)] 38)).drew) w.heap.size 3 (encI (netL (ts.take (k + 1)))).toArray) := by
          rw [HT.out]
          exact ((blk_net_set hB.out HLt.out (by unfold absI; rw [if_neg (by omega)]; omega) (by unfold absI; rw [if_neg (by omega), if_neg (by omega), ← HY.out]; rfl)).alloc _).drew
        have HZ2 : Hid (z = bd - negI (ts.take (k + 1))) := by rw [Hid, HT.out, negI_snoc, hz.out]; simp only; rw [if_neg (by omega)]; omega
        have KS : Hid (∀ W, Ext (wr.alloc (.cells #[.int .i64 c, .int .i64 ((m : Int) + 1)] 38)) W → (W.cell? ⟨wr.heap.size, 0, none⟩ = some (.int .i64 c) ∧ W.cell? ⟨wr.heap.size, 1, none⟩ = some (.int .i64 ((m : Int) + 1)) ∧ W.cell? ⟨w.heap.size, m + 1, none⟩ = some (.int .i64 y))) := fun W e => ⟨(HBX.out.ext e).cell 0, (HBX.out.ext e).cell 1, e.cell (EX.cell n1)⟩
        have EX2 := Lib.hid EX
        clear EX HY HT
        go_wp2_with fail
        have hS0 := KS.out _ (Ext.refl _).drew
        refine wp_region_Z (fun W => W.cell? ⟨wr.heap.size, 0, none⟩ = some (.int .i64 c) ∧ W.cell? ⟨wr.heap.size, 1, none⟩ = some (.int .i64 ((m : Int) + 1)) ∧ W.cell? ⟨w.heap.size, m + 1, none⟩ = some (.int .i64 y)) 12 (by kernel_rfl) ?_
        refine wpAnyZ_take 0 (v := ?_) (by kernel_rfl) rfl rfl (by kernel_rfl) (by kernel_rfl) (by kernel_rfl) (fun _ _ _ h => h) hS0 (Or.inl ⟨by rfl, ?_⟩) ?_
        rotate_left
        · (intro w hSw; (try dsimp only at hSw); go_simp; (try with_reducible rfl))
        try simp only [Act.put, List.setIfInBounds_toArray, List.set_cons_zero, List.set_cons_succ]
        refine wpAnyZ_take 1 (v := ?_) (by kernel_rfl) rfl rfl (by kernel_rfl) (by kernel_rfl) (by kernel_rfl) (fun _ _ _ h => h) hS0 (Or.inl ⟨by rfl, ?_⟩) ?_
        rotate_left
        · (intro w hSw; (try dsimp only at hSw); go_simp; (try with_reducible rfl))
        try simp only [Act.put, List.setIfInBounds_toArray, List.set_cons_zero, List.set_cons_succ]
        refine wpAnyZ_take 2 (v := ?_) (by kernel_rfl) rfl rfl (by kernel_rfl) (by kernel_rfl) (by kernel_rfl) (fun _ _ _ h => h) hS0 (Or.inl ⟨by rfl, ?_⟩) ?_
        rotate_left
        · (intro w hSw; (try dsimp only at hSw); go_simp; (try with_reducible rfl))
        try simp only [Act.put, List.setIfInBounds_toArray, List.set_cons_zero, List.set_cons_succ]
        refine wpAnyZ_take 3 (v := ?_) (by kernel_rfl) rfl rfl (by kernel_rfl) (by kernel_rfl) (by kernel_rfl) (fun _ _ _ h => h) hS0 (Or.inl ⟨by rfl, ?_⟩) ?_
        rotate_left
        · (intro w hSw; (try dsimp only at hSw); go_simp; (try with_reducible rfl))
        try simp only [Act.put, List.setIfInBounds_toArray, List.set_cons_zero, List.set_cons_succ]
        refine wpAnyZ_take 4 (v := ?_) (by kernel_rfl) rfl rfl (by kernel_rfl) (by kernel_rfl) (by kernel_rfl) (fun _ _ _ h => h) hS0 (Or.inl ⟨by rfl, ?_⟩) ?_
        rotate_left
        · (intro w hSw; (try dsimp only at hSw); go_simp; (try with_reducible rfl))
        try simp only [Act.put, List.setIfInBounds_toArray, List.set_cons_zero, List.set_cons_succ]
        refine wpAnyZ_take 5 (v := ?_) (by kernel_rfl) rfl rfl (by kernel_rfl) (by kernel_rfl) (by kernel_rfl) (fun _ _ _ h => h) hS0 (Or.inl ⟨by rfl, ?_⟩) ?_
        rotate_left
        · (intro w hSw; (try dsimp only at hSw); go_simp; (try with_reducible rfl))
        try simp only [Act.put, List.setIfInBounds_toArray, List.set_cons_zero, List.set_cons_succ]
        refine wpAnyZ_take 6 (v := ?_) (by kernel_rfl) rfl rfl (by kernel_rfl) (by kernel_rfl) (by kernel_rfl) (fun _ _ _ h => h) hS0 (Or.inl ⟨by rfl, ?_⟩) ?_
        rotate_left
        · (intro w hSw; (try dsimp only at hSw); go_simp; (try with_reducible rfl))
        try simp only [Act.put, List.setIfInBounds_toArray, List.set_cons_zero, List.set_cons_succ]
        refine wpAnyZ_take 7 (v := ?_) (by kernel_rfl) rfl rfl (by kernel_rfl) (by kernel_rfl) (by kernel_rfl) (fun _ _ _ h => h) hS0 (Or.inl ⟨by rfl, ?_⟩) ?_
        rotate_left
        · (intro w hSw; (try dsimp only at hSw); go_simp; (try with_reducible rfl))
        try simp only [Act.put, List.setIfInBounds_toArray, List.set_cons_zero, List.set_cons_succ]
        refine wpAnyZ_take 8 (v := ?_) (by kernel_rfl) rfl rfl (by kernel_rfl) (by kernel_rfl) (by kernel_rfl) (fun _ _ _ h => h) hS0 (Or.inl ⟨by rfl, ?_⟩) ?_
        rotate_left
        · (intro w hSw; (try dsimp only at hSw); go_simp; (try with_reducible rfl))
        try simp only [Act.put, List.setIfInBounds_toArray, List.set_cons_zero, List.set_cons_succ]
        refine wpAnyZ_take 9 (v := ?_) (by kernel_rfl) rfl rfl (by kernel_rfl) (by kernel_rfl) (by kernel_rfl) (fun _ _ _ h => h) hS0 (Or.inl ⟨by rfl, ?_⟩) ?_
        rotate_left
        · (intro w hSw; (try dsimp only at hSw); go_simp; (try with_reducible rfl))
        try simp only [Act.put, List.setIfInBounds_toArray, List.set_cons_zero, List.set_cons_succ]
        refine wpAnyZ_take 10 (v := ?_) (by kernel_rfl) rfl rfl (by kernel_rfl) (by kernel_rfl) (by kernel_rfl) (fun _ _ _ h => h) hS0 (Or.inl ⟨by rfl, ?_⟩) ?_
        rotate_left
        · (intro w hSw; (try dsimp only at hSw); go_simp; (try with_reducible rfl))
        try simp only [Act.put, List.setIfInBounds_toArray, List.set_cons_zero, List.set_cons_succ]
        refine wpAnyZ_take 11 (v := ?_) (by kernel_rfl) rfl rfl (by kernel_rfl) (by kernel_rfl) (by kernel_rfl) (fun _ _ _ h => h) hS0 (Or.inl ⟨by rfl, ?_⟩) ?_
        rotate_left
        · (intro w hSw; (try dsimp only at hSw); go_simp; (try with_reducible rfl))
        try simp only [Act.put, List.setIfInBounds_toArray, List.set_cons_zero, List.set_cons_succ]
        refine wpAnyZ_last (by kernel_rfl) (by kernel_rfl) rfl rfl (fun K hK => ?_)
        go_simp
        refine hK.out _ _ ?_
        clear hK K hS0
        have HE2 := Lib.hid (((hE.setNew (p := ⟨w.heap.size, m + 1, none⟩) (Nat.le_refl _) (.int .i64 (y + c))).alloc (.cells #[.int .i64 c, .int .i64 ((m : Int) + 1)] 38)).drew)
        clear n1 f1
        go_wp2
        go_roundw
        case rel => exact ⟨k + 1, z, by omega, by go_num, rfl, HZ2.out, HE2.out, HR.out⟩
        case measure => simp [intOf]; omega
      · have i1 : IntKind.i64.wrap (y - c) = y - c := IntWalk.i64_in _ (by omega)
        have i2 : IntKind.i64.wrap ((m : Int) + 1) = (m : Int) + 1 := IntWalk.i64_in _ (by omega)
        have i3 : IntKind.i64.wrap (z - c) = z - c := IntWalk.i64_in _ (by omega)
        have g0 : (0 : Int) ≤ (m : Int) + 1 := by omega
        have g1 : (m : Int) + 1 < 13 := by omega
        have gp : ¬ ((0 : Int) < -((m : Int) + 1)) := by omega
        have gt : ((m : Int) + 1).toNat = m + 1 := by omega
        have HR : Hid (Blk (((wr.setCell ⟨w.heap.size, m + 1, none⟩ (.int .i64 (y - c))).alloc (.cells #[.int .i64 c, .int .i64 (-((m : Int) + 1))] 38)).drew) w.heap.size 3 (encI (netL (ts.take (k + 1)))).toArray) := by
          rw [HT.out]
          refine ((blk_net_set hB.out HLt.out (by unfold absI; rw [if_pos (by omega)]; omega) ?_).alloc _).drew
          unfold absI; rw [if_pos (by omega), if_pos (by omega), ← HY.out, show - -((m : Int) + 1) = ((m + 1 : Nat) : Int) from by omega]; omega
        have HZ2 : Hid (z - c = bd - negI (ts.take (k + 1))) := by rw [Hid, HT.out, negI_snoc, hz.out]; simp only; rw [if_pos (by omega)]; omega
        have KS : Hid (∀ W, Ext (wr.alloc (.cells #[.int .i64 c, .int .i64 (-((m : Int) + 1))] 38)) W → (W.cell? ⟨wr.heap.size, 0, none⟩ = some (.int .i64 c) ∧ W.cell? ⟨wr.heap.size, 1, none⟩ = some (.int .i64 (-((m : Int) + 1))) ∧ W.cell? ⟨w.heap.size, m + 1, none⟩ = some (.int .i64 y))) := fun W e => ⟨(HBX.out.ext e).cell 0, (HBX.out.ext e).cell 1, e.cell (EX.cell n1)⟩
        have EX2 := Lib.hid EX
        clear EX HY HT
        go_wp2_with fail
        have hS0 := KS.out _ (Ext.refl _).drew
        refine wp_region_Z (fun W => W.cell? ⟨wr.heap.size, 0, none⟩ = some (.int .i64 c) ∧ W.cell? ⟨wr.heap.size, 1, none⟩ = some (.int .i64 (-((m : Int) + 1))) ∧ W.cell? ⟨w.heap.size, m + 1, none⟩ = some (.int .i64 y)) 14 (by kernel_rfl) ?_
        refine wpAnyZ_take 0 (v := ?_) (by kernel_rfl) rfl rfl (by kernel_rfl) (by kernel_rfl) (by kernel_rfl) (fun _ _ _ h => h) hS0 (Or.inl ⟨by rfl, ?_⟩) ?_
        rotate_left
        · (intro w hSw; (try dsimp only at hSw); go_simp; (try with_reducible rfl))
        try simp only [Act.put, List.setIfInBounds_toArray, List.set_cons_zero, List.set_cons_succ]
        refine wpAnyZ_take 1 (v := ?_) (by kernel_rfl) rfl rfl (by kernel_rfl) (by kernel_rfl) (by kernel_rfl) (fun _ _ _ h => h) hS0 (Or.inl ⟨by rfl, ?_⟩) ?_
        rotate_left
        · (intro w hSw; (try dsimp only at hSw); go_simp; (try with_reducible rfl))
        try simp only [Act.put, List.setIfInBounds_toArray, List.set_cons_zero, List.set_cons_succ]
        refine wpAnyZ_take 2 (v := ?_) (by kernel_rfl) rfl rfl (by kernel_rfl) (by kernel_rfl) (by kernel_rfl) (fun _ _ _ h => h) hS0 (Or.inl ⟨by rfl, ?_⟩) ?_
        rotate_left
        · (intro w hSw; (try dsimp only at hSw); go_simp; (try with_reducible rfl))
        try simp only [Act.put, List.setIfInBounds_toArray, List.set_cons_zero, List.set_cons_succ]
        refine wpAnyZ_take 3 (v := ?_) (by kernel_rfl) rfl rfl (by kernel_rfl) (by kernel_rfl) (by kernel_rfl) (fun _ _ _ h => h) hS0 (Or.inl ⟨by rfl, ?_⟩) ?_
        rotate_left
        · (intro w hSw; (try dsimp only at hSw); go_simp; (try with_reducible rfl))
        try simp only [Act.put, List.setIfInBounds_toArray, List.set_cons_zero, List.set_cons_succ]
        refine wpAnyZ_take 4 (v := ?_) (by kernel_rfl) rfl rfl (by kernel_rfl) (by kernel_rfl) (by kernel_rfl) (fun _ _ _ h => h) hS0 (Or.inl ⟨by rfl, ?_⟩) ?_
        rotate_left
        · (intro w hSw; (try dsimp only at hSw); go_simp; (try with_reducible rfl))
        try simp only [Act.put, List.setIfInBounds_toArray, List.set_cons_zero, List.set_cons_succ]
        refine wpAnyZ_take 5 (v := ?_) (by kernel_rfl) rfl rfl (by kernel_rfl) (by kernel_rfl) (by kernel_rfl) (fun _ _ _ h => h) hS0 (Or.inl ⟨by rfl, ?_⟩) ?_
        rotate_left
        · (intro w hSw; (try dsimp only at hSw); go_simp; (try with_reducible rfl))
        try simp only [Act.put, List.setIfInBounds_toArray, List.set_cons_zero, List.set_cons_succ]
        refine wpAnyZ_take 6 (v := ?_) (by kernel_rfl) rfl rfl (by kernel_rfl) (by kernel_rfl) (by kernel_rfl) (fun _ _ _ h => h) hS0 (Or.inl ⟨by rfl, ?_⟩) ?_
        rotate_left
        · (intro w hSw; (try dsimp only at hSw); go_simp; (try with_reducible rfl))
        try simp only [Act.put, List.setIfInBounds_toArray, List.set_cons_zero, List.set_cons_succ]
        refine wpAnyZ_take 7 (v := ?_) (by kernel_rfl) rfl rfl (by kernel_rfl) (by kernel_rfl) (by kernel_rfl) (fun _ _ _ h => h) hS0 (Or.inl ⟨by rfl, ?_⟩) ?_
        rotate_left
        · (intro w hSw; (try dsimp only at hSw); go_simp; (try with_reducible rfl))
        try simp only [Act.put, List.setIfInBounds_toArray, List.set_cons_zero, List.set_cons_succ]
        refine wpAnyZ_take 8 (v := ?_) (by kernel_rfl) rfl rfl (by kernel_rfl) (by kernel_rfl) (by kernel_rfl) (fun _ _ _ h => h) hS0 (Or.inl ⟨by rfl, ?_⟩) ?_
        rotate_left
        · (intro w hSw; (try dsimp only at hSw); go_simp; (try with_reducible rfl))
        try simp only [Act.put, List.setIfInBounds_toArray, List.set_cons_zero, List.set_cons_succ]
        refine wpAnyZ_take 9 (v := ?_) (by kernel_rfl) rfl rfl (by kernel_rfl) (by kernel_rfl) (by kernel_rfl) (fun _ _ _ h => h) hS0 (Or.inl ⟨by rfl, ?_⟩) ?_
        rotate_left
        · (intro w hSw; (try dsimp only at hSw); go_simp; (try with_reducible rfl))
        try simp only [Act.put, List.setIfInBounds_toArray, List.set_cons_zero, List.set_cons_succ]
        refine wpAnyZ_take 10 (v := ?_) (by kernel_rfl) rfl rfl (by kernel_rfl) (by kernel_rfl) (by kernel_rfl) (fun _ _ _ h => h) hS0 (Or.inl ⟨by rfl, ?_⟩) ?_
        rotate_left
        · (intro w hSw; (try dsimp only at hSw); go_simp; (try with_reducible rfl))
        try simp only [Act.put, List.setIfInBounds_toArray, List.set_cons_zero, List.set_cons_succ]
        refine wpAnyZ_take 11 (v := ?_) (by kernel_rfl) rfl rfl (by kernel_rfl) (by kernel_rfl) (by kernel_rfl) (fun _ _ _ h => h) hS0 (Or.inl ⟨by rfl, ?_⟩) ?_
        rotate_left
        · (intro w hSw; (try dsimp only at hSw); go_simp; (try with_reducible rfl))
        try simp only [Act.put, List.setIfInBounds_toArray, List.set_cons_zero, List.set_cons_succ]
        refine wpAnyZ_take 12 (v := ?_) (by kernel_rfl) rfl rfl (by kernel_rfl) (by kernel_rfl) (by kernel_rfl) (fun _ _ _ h => h) hS0 (Or.inl ⟨by rfl, ?_⟩) ?_
        rotate_left
        · (intro w hSw; (try dsimp only at hSw); go_simp; (try with_reducible rfl))
        try simp only [Act.put, List.setIfInBounds_toArray, List.set_cons_zero, List.set_cons_succ]
        refine wpAnyZ_take 13 (v := ?_) (by kernel_rfl) rfl rfl (by kernel_rfl) (by kernel_rfl) (by kernel_rfl) (fun _ _ _ h => h) hS0 (Or.inl ⟨by rfl, ?_⟩) ?_
        rotate_left
        · (intro w hSw; (try dsimp only at hSw); go_simp; (try with_reducible rfl))
        try simp only [Act.put, List.setIfInBounds_toArray, List.set_cons_zero, List.set_cons_succ]
        refine wpAnyZ_last (by kernel_rfl) (by kernel_rfl) rfl rfl (fun K hK => ?_)
        go_simp
        refine hK.out _ _ ?_
        clear hK K hS0
        have HE2 := Lib.hid (((hE.setNew (p := ⟨w.heap.size, m + 1, none⟩) (Nat.le_refl _) (.int .i64 (y - c))).alloc (.cells #[.int .i64 c, .int .i64 (-((m : Int) + 1))] 38)).drew)
        have x0 := (((Blk.new (wr.setCell ⟨w.heap.size, m + 1, none⟩ (.int .i64 (y - c))) 38 #[.int .i64 c, .int .i64 (-((m : Int) + 1))]).drew)).cell 0
        simp only [World.size_setCell] at x0
        clear n1 f1
        go_wp2
        go_roundw
        case rel => exact ⟨k + 1, z - c, by omega, by go_num, rfl, HZ2.out, HE2.out, HR.out⟩
        case measure => simp [intOf]; omega
    · obtain rfl : k = n := by omega
      have HF : Hid (z = bd - negI ts) := by rw [Hid, hz.out, List.take_of_length_le (by rw [HL.out]; omega)]
      have HG : Hid (Got w wr 1 (some ⟨w.heap.size, 0, none⟩) 13 (encI (netL ts))) := by
        have := hB.out
        rw [List.take_of_length_le (by rw [HL.out]; omega)] at this
        exact this.got (w := w) (sz := 1) (n := 13) (by simp [encI, netL_len]) (Nat.le_refl _)
      clear hB hz
      go_wp2
      go_ret2
      exact ⟨some ⟨w.heap.size, 0, none⟩, 13, by rw [← HF.out]; rfl, HG.out, hE⟩

/-- the valid normal form, or nothing -/
def vT (ts : List Tm) (bd : Int) : List Tm := if noB ts bd = true then noT ts else []
def vD (ts : List Tm) (bd : Int) : Int := if noB ts bd = true then noD ts bd else 0
theorem nfUp_one {ts : List Tm} (h : smT ts = true) : nfUp ts 1 = [] ∧ nfNg ts 1 = 0 := by
  have hz := netI_zero h
  have := nfUp_zero (ts := ts) (m := 0) hz
  rw [this.1, this.2]; exact ⟨rfl, rfl⟩
theorem nfNg_bd2 {ts : List Tm} (h : smT ts = true) (hl : ts.length ≤ 40) (m : Nat) (hm : m ≤ 13) : -520000 ≤ nfNg ts m ∧ nfNg ts m ≤ 0 := by
  have h1 := nfNg_bd h m
  have h2 : 1000 * (ts.length : Int) * m ≤ 40000 * 13 := Int.mul_le_mul (by omega) (by omega) (by omega) (by omega)
  omega

theorem Try.infoTmF : (Try.prog.info? 38).map (fun i => (i.zero, i.size, i.bytes)) = some (some (.agg #[.int .i64 0, .int .i64 0]), 2, 16) := by kernel_rfl
set_option maxRecDepth 100000 in
set_option maxHeartbeats 8000000 in
theorem l1Normal_any (B : Option Addr) (capb : Nat) (ts : List Tm) (bd : Int) (w : World) (hb : Seg w 1 B 13 (encI (netL ts))) (hlen : ts.length ≤ 40) (hs : smT ts = true) (hbd : -50000 ≤ bd ∧ bd ≤ 50000) :
    Calls Try.prog 93 #[.slice B 13 capb, .int .i64 (bd - negI ts)] w fun e w' => RetCB (vT ts bd) (vD ts bd) (noB ts bd) w e w' := by
  obtain ⟨i0, hi, hz0, hz1, hz2⟩ := info_parts Try.infoTmF
  have HI := Lib.hid hi
  have HZ0 := Lib.hid hz0
  have HZ1 := Lib.hid hz1
  have HZ2 := Lib.hid hz2
  clear hi hz0 hz1 hz2
  have HB := Lib.hid hb
  have HM := Lib.hid hs
  have hng := negI_bd hs
  have hold := Lib.hid hb.old
  obtain ⟨b0, hb0⟩ : ∃ b0, bd - negI ts = b0 := ⟨_, rfl⟩
  have hb0b : -100000 ≤ b0 ∧ b0 ≤ 100000 := by omega
  rw [hb0]
  have HB0e := Lib.hid hb0
  have H1 := Lib.hid (nfUp_one hs)
  clear hb hs hng hb0
  have HC := Lib.hid (Blk.of2 (Ext.refl ((w.alloc (.cells #[.slice none 0 0, .int .i64 0] 25)).alloc (.cells #[.slice none 0 0, .int .i64 0] 25))))
  go_enter Try.func93, Try.ntmps93
  go_wp2_with fail
  go_loopw [1, 7] (fun b i wr => ∃ (k : Nat) (z : Int), 1 ≤ k ∧ k ≤ 13 ∧ i = .int .i64 k ∧ b = .int .i64 z ∧ Hid (z = bd - negI ts - nfNg ts k) ∧ Ext w wr ∧ Hid (Blk wr w.heap.size 25 #[.slice none 0 0, .int .i64 0]) ∧ ∃ v m, m ≤ k ∧ Hid (Blk wr (w.heap.size + 1) 25 #[v, .int .i64 0]) ∧ Hid (wr.ownsRow (w.heap.size + 2) 38 2 v m (encT (nfUp ts k)))) (fun _ i _ => 13 - (intOf i).toNat)
  case atStart =>
    refine ⟨1, b0, by omega, by omega, rfl, rfl, by rw [Hid, H1.out.2, HB0e.out]; omega, ((Ext.refl _).alloc _).alloc _, HC.out.1, .slice none 0 0, 0, by omega, HC.out.2, ?_⟩
    rw [H1.out.1]; exact World.ownsRow_nil _ _ _ _
  case round =>
    clear HC
    obtain ⟨k, z, hk1, hk, rfl, rfl, hz, hE, hB0, v, m, hmk, hB1, hown⟩ := hrel
    have hzb : -200000 ≤ z ∧ z ≤ 700000 := by
      have := nfNg_bd2 HM.out hlen k hk
      have := hz.out; have := HB0e.out; omega
    have hzr := hB1.out.lt
    by_cases hlt : k < 13
    · obtain ⟨b, off, a, rfl, hx, c0⟩ := HB.out.int (k := k) hlt
      have hbl : b < w.heap.size := (hold.out (by omega) _ rfl).2
      have ha : netI ts (k : Int) = a := by rw [netL_at ts k hlt] at hx; exact Option.some.inj hx
      have hab : -40000 ≤ a ∧ a ≤ 40000 := by have := netI_bd HM.out (k : Int); omega
      have c1 := hE.cell c0
      clear hx
      have k0 : (0 : Int) ≤ (k : Int) := Int.natCast_nonneg _
      have k1 : (k : Int) < 13 := by omega
      have b1 := hB1.out.cell 0
      have f1 := hB1.out.frozen 0
      have hne : ∀ j, j < w.heap.size + 2 → some j ≠ v.ownBlock := fun j hj e => by have := (hown.out.lt j e.symm).1; omega
      have K0 : Hid (∀ W, Ext wr W → (W.cell? ⟨w.heap.size + 1, 0, none⟩ = some v ∧ W.cell? ⟨b, off + k, none⟩ = some (.int .i64 a))) := fun W e => ⟨e.cell b1, e.cell c1⟩
      have KA : Hid (∀ W W', Ext wr W → W.grownBy W' v.ownBlock → (W'.cell? ⟨w.heap.size + 1, 0, none⟩ = some v ∧ W'.cell? ⟨b, off + k, none⟩ = some (.int .i64 a))) := fun W W' e hg => by
        have q := K0.out W e
        have z := e.size
        refine ⟨?_, ?_⟩
        · rw [hg.cell_far _ (by simp only; omega) (hne _ (by simp only; omega))]; exact q.1
        · rw [hg.cell_far _ (by simp only; omega) (hne _ (by simp only; omega))]; exact q.2
      have HA := Lib.hid ha
      have HC0 := Lib.hid c0
      clear ha hne c0
      rcases Int.lt_trichotomy a 0 with hlt0 | heq | hgt
      · have hup := nfUp_neg (ts := ts) (m := k) (by rw [HA.out]; exact hlt0)
        rw [HA.out] at hup
        have HU := Lib.hid hup.1
        have HN2 : Hid (z - a = bd - negI ts - nfNg ts (k + 1)) := by rw [Hid, hup.2, hz.out]; omega
        have i1 : IntKind.i64.wrap (-a) = -a := IntWalk.i64_in _ (by omega)
        have i2 : IntKind.i64.wrap (-(k : Int)) = -(k : Int) := IntWalk.i64_in _ (by omega)
        clear hup
        go_wp2_with fail
        have hS0 := K0.out wr.drew (Ext.refl _).drew
        refine wp_region_Z (fun w' => w'.cell? ⟨w.heap.size + 1, 0, none⟩ = some v ∧ w'.cell? ⟨b, off + k, none⟩ = some (.int .i64 a)) 13 (by kernel_rfl) ?_
        refine wpAnyZ_take 0 (v := ?_) (by kernel_rfl) rfl rfl (by kernel_rfl) (by kernel_rfl) (by kernel_rfl) (fun _ _ _ h => h) hS0 (Or.inl ⟨by rfl, ?_⟩) ?_
        rotate_left
        · (intro w hSw; (try dsimp only at hSw); go_simp; (try with_reducible rfl))
        try simp only [Act.put, List.setIfInBounds_toArray, List.set_cons_zero, List.set_cons_succ]
        refine wpAnyZ_take 1 (v := ?_) (by kernel_rfl) rfl rfl (by kernel_rfl) (by kernel_rfl) (by kernel_rfl) (fun _ _ _ h => h) hS0 (Or.inl ⟨by rfl, ?_⟩) ?_
        rotate_left
        · (intro w hSw; (try dsimp only at hSw); go_simp; (try with_reducible rfl))
        try simp only [Act.put, List.setIfInBounds_toArray, List.set_cons_zero, List.set_cons_succ]
        refine wpAnyZ_take 2 (v := ?_) (by kernel_rfl) rfl rfl (by kernel_rfl) (by kernel_rfl) (by kernel_rfl) (fun _ _ _ h => h) hS0 (Or.inl ⟨by rfl, ?_⟩) ?_
        rotate_left
        · (intro w hSw; (try dsimp only at hSw); go_simp; (try with_reducible rfl))
        try simp only [Act.put, List.setIfInBounds_toArray, List.set_cons_zero, List.set_cons_succ]
        refine wpAnyZ_take 3 (v := ?_) (by kernel_rfl) rfl rfl (by kernel_rfl) (by kernel_rfl) (by kernel_rfl) (fun _ _ _ h => h) hS0 (Or.inl ⟨by rfl, ?_⟩) ?_
        rotate_left
        · (intro w hSw; (try dsimp only at hSw); go_simp; (try with_reducible rfl))
        try simp only [Act.put, List.setIfInBounds_toArray, List.set_cons_zero, List.set_cons_succ]
        refine wpAnyZ_take 4 (v := ?_) (by kernel_rfl) rfl rfl (by kernel_rfl) (by kernel_rfl) (by kernel_rfl) (fun _ _ _ h => h) hS0 (Or.inl ⟨by rfl, ?_⟩) ?_
        rotate_left
        · (intro w hSw; (try dsimp only at hSw); go_simp; (try with_reducible rfl))
        try simp only [Act.put, List.setIfInBounds_toArray, List.set_cons_zero, List.set_cons_succ]
        refine wpAnyZ_take 5 (v := ?_) (by kernel_rfl) rfl rfl (by kernel_rfl) (by kernel_rfl) (by kernel_rfl) (fun _ _ _ h => h) hS0 (Or.inl ⟨by rfl, ?_⟩) ?_
        rotate_left
        · (intro w hSw; (try dsimp only at hSw); go_simp; (try with_reducible rfl))
        try simp only [Act.put, List.setIfInBounds_toArray, List.set_cons_zero, List.set_cons_succ]
        refine wpAnyZ_take 6 (v := ?_) (by kernel_rfl) rfl rfl (by kernel_rfl) (by kernel_rfl) (by kernel_rfl) (fun _ _ _ h => h) hS0 (Or.inl ⟨by rfl, ?_⟩) ?_
        rotate_left
        · (intro w hSw; (try dsimp only at hSw); go_simp; (try with_reducible rfl))
        try simp only [Act.put, List.setIfInBounds_toArray, List.set_cons_zero, List.set_cons_succ]
        refine wpAnyZ_take 7 (v := ?_) (by kernel_rfl) rfl rfl (by kernel_rfl) (by kernel_rfl) (by kernel_rfl) (fun _ _ _ h => h) hS0 (Or.inl ⟨by rfl, ?_⟩) ?_
        rotate_left
        · (intro w hSw; (try dsimp only at hSw); go_simp; (try with_reducible rfl))
        try simp only [Act.put, List.setIfInBounds_toArray, List.set_cons_zero, List.set_cons_succ]
        refine wpAnyZ_take 8 (v := ?_) (by kernel_rfl) rfl rfl (by kernel_rfl) (by kernel_rfl) (by kernel_rfl) (fun _ _ _ h => h) hS0 (Or.inl ⟨by rfl, ?_⟩) ?_
        rotate_left
        · (intro w hSw; (try dsimp only at hSw); go_simp; (try with_reducible rfl))
        try simp only [Act.put, List.setIfInBounds_toArray, List.set_cons_zero, List.set_cons_succ]
        refine wpAnyZ_take 9 (v := ?_) (by kernel_rfl) rfl rfl (by kernel_rfl) (by kernel_rfl) (by kernel_rfl) (fun _ _ _ h => h) hS0 (Or.inl ⟨by rfl, ?_⟩) ?_
        rotate_left
        · (intro w hSw; (try dsimp only at hSw); go_simp; (try with_reducible rfl))
        try simp only [Act.put, List.setIfInBounds_toArray, List.set_cons_zero, List.set_cons_succ]
        refine wpAnyZ_one 10 (by kernel_rfl) rfl rfl (fun K hK => ?_)
        go_simp
        refine hK.out _ _ (K0.out _ (by first | exact ((Ext.refl _).drew).alloc _ | exact ((Ext.refl _).alloc _).drew)) ?_
        clear hK K
        try simp only [Act.put, List.setIfInBounds_toArray, List.set_cons_zero, List.set_cons_succ]
        refine wpAnyZ_one 11 (by kernel_rfl) rfl rfl (fun K hK => ?_)
        refine wp_append_lies _ _ _ _ (by rfl) (w.heap.size + 2) 38 i0 _ 2 16 Try.underlying23 HI.out HZ0.out HZ1.out HZ2.out rfl (by omega) v m _ (by rfl) (hown.out.alloc _).drew
              ⟨wr.heap.size, 0, none⟩ 1 1 [.int .i64 (-a), .int .i64 (-(k : Int))] (by rfl) (by rfl) (World.news_of_block (cs := #[.int .i64 (-a), .int .i64 (-(k : Int))]) (t := 38) (fr := (0, 0)) (heap_alloc_new wr _)) (by simp [Value.oneCell'])
              (by omega) (by unfold maxLen; omega) (by omega) (by simp; omega) (wr.heap.size + 1) (by simp) ?_
        intro gg cp w1 hown1 hg1 hat hlt1
        have BB1 := own_blk ((hB1.out.alloc _).drew) ((hown.out.alloc _).drew) (by omega) hg1
        have bb1 := BB1.cell 0
        have fz1 := BB1.frozen 0
        clear BB1
        have hSa := KA.out _ _ (by first | exact ((Ext.refl _).drew).alloc _ | exact ((Ext.refl _).alloc _).drew) hg1
        refine hK.out _ _ hSa ?_
        clear hK K
        try simp only [Act.put, List.setIfInBounds_toArray, List.set_cons_zero, List.set_cons_succ]
        refine wpAnyZ_one 12 (by kernel_rfl) rfl rfl (fun K hK => ?_)
        go_simp
        refine hK.out _ _ hSa ?_
        clear hK K
        try simp only [Act.put, List.setIfInBounds_toArray, List.set_cons_zero, List.set_cons_succ]
        refine wpAnyZ_last (by kernel_rfl) (by kernel_rfl) rfl rfl (fun K hK => ?_)
        go_simp
        refine hK.out _ _ ?_
        clear hK K
        have hg2 : (wr.drew.alloc (.cells #[.int .i64 (-a), .int .i64 (-(k : Int))] 38)).grownBy w1 v.ownBlock := hg1
        obtain ⟨E1, K1, O1⟩ := push_box hE.drew hB1.out.drew hown.out.drew (by omega) (by omega) (by omega) hg2 hown1
        have Kr := push_blk (gc := w.heap.size + 1) (v1 := .slice (some ⟨gg, 0, none⟩) (m + 1) cp) hB0.out.drew hown.out.drew (by omega) (by omega) hg2
        have HE1 := Lib.hid E1
        have HK1 := Lib.hid K1
        have HO1 := Lib.hid O1
        have HKr := Lib.hid Kr
        have HS1 := Lib.hid hSa
        clear E1 K1 O1 Kr hg1 hg2 hown1 hat hSa bb1 fz1 hS0 K0 KA
        have netw := ((HE1.out).cell HC0.out)
        have hzw1 := HK1.out.lt
        go_wp2
        go_roundw
        case rel =>
          refine ⟨k + 1, z - a, by omega, by omega, by go_num, rfl, HN2.out, HE1.out, HKr.out, _, m + 1, by omega, HK1.out, ?_⟩
          rw [HU.out, encT_append]
          simpa [encT, Hid] using HO1.out
        case measure => simp [intOf]; omega
      · have hup := nfUp_zero (ts := ts) (m := k) (by rw [HA.out]; exact heq)
        subst heq
        have HU := Lib.hid hup.1
        have HN2 : Hid (z = bd - negI ts - nfNg ts (k + 1)) := by rw [Hid, hup.2, hz.out]
        clear hup K0 KA
        go_wp2
        go_roundw
        case rel =>
          refine ⟨k + 1, z, by omega, by omega, by go_num, rfl, HN2.out, hE, hB0.out, v, m, by omega, hB1.out, ?_⟩
          rw [HU.out]; exact hown.out
        case measure => simp [intOf]; omega
      · have hup := nfUp_pos (ts := ts) (m := k) (by rw [HA.out]; exact hgt)
        rw [HA.out] at hup
        have HU := Lib.hid hup.1
        have HN2 : Hid (z = bd - negI ts - nfNg ts (k + 1)) := by rw [Hid, hup.2, hz.out]
        clear hup
        go_wp2_with fail
        have hS0 := K0.out wr.drew (Ext.refl _).drew
        refine wp_region_Z (fun w' => w'.cell? ⟨w.heap.size + 1, 0, none⟩ = some v ∧ w'.cell? ⟨b, off + k, none⟩ = some (.int .i64 a)) 11 (by kernel_rfl) ?_
        refine wpAnyZ_take 0 (v := ?_) (by kernel_rfl) rfl rfl (by kernel_rfl) (by kernel_rfl) (by kernel_rfl) (fun _ _ _ h => h) hS0 (Or.inl ⟨by rfl, ?_⟩) ?_
        rotate_left
        · (intro w hSw; (try dsimp only at hSw); go_simp; (try with_reducible rfl))
        try simp only [Act.put, List.setIfInBounds_toArray, List.set_cons_zero, List.set_cons_succ]
        refine wpAnyZ_take 1 (v := ?_) (by kernel_rfl) rfl rfl (by kernel_rfl) (by kernel_rfl) (by kernel_rfl) (fun _ _ _ h => h) hS0 (Or.inl ⟨by rfl, ?_⟩) ?_
        rotate_left
        · (intro w hSw; (try dsimp only at hSw); go_simp; (try with_reducible rfl))
        try simp only [Act.put, List.setIfInBounds_toArray, List.set_cons_zero, List.set_cons_succ]
        refine wpAnyZ_take 2 (v := ?_) (by kernel_rfl) rfl rfl (by kernel_rfl) (by kernel_rfl) (by kernel_rfl) (fun _ _ _ h => h) hS0 (Or.inl ⟨by rfl, ?_⟩) ?_
        rotate_left
        · (intro w hSw; (try dsimp only at hSw); go_simp; (try with_reducible rfl))
        try simp only [Act.put, List.setIfInBounds_toArray, List.set_cons_zero, List.set_cons_succ]
        refine wpAnyZ_take 3 (v := ?_) (by kernel_rfl) rfl rfl (by kernel_rfl) (by kernel_rfl) (by kernel_rfl) (fun _ _ _ h => h) hS0 (Or.inl ⟨by rfl, ?_⟩) ?_
        rotate_left
        · (intro w hSw; (try dsimp only at hSw); go_simp; (try with_reducible rfl))
        try simp only [Act.put, List.setIfInBounds_toArray, List.set_cons_zero, List.set_cons_succ]
        refine wpAnyZ_take 4 (v := ?_) (by kernel_rfl) rfl rfl (by kernel_rfl) (by kernel_rfl) (by kernel_rfl) (fun _ _ _ h => h) hS0 (Or.inl ⟨by rfl, ?_⟩) ?_
        rotate_left
        · (intro w hSw; (try dsimp only at hSw); go_simp; (try with_reducible rfl))
        try simp only [Act.put, List.setIfInBounds_toArray, List.set_cons_zero, List.set_cons_succ]
        refine wpAnyZ_take 5 (v := ?_) (by kernel_rfl) rfl rfl (by kernel_rfl) (by kernel_rfl) (by kernel_rfl) (fun _ _ _ h => h) hS0 (Or.inl ⟨by rfl, ?_⟩) ?_
        rotate_left
        · (intro w hSw; (try dsimp only at hSw); go_simp; (try with_reducible rfl))
        try simp only [Act.put, List.setIfInBounds_toArray, List.set_cons_zero, List.set_cons_succ]
        refine wpAnyZ_take 6 (v := ?_) (by kernel_rfl) rfl rfl (by kernel_rfl) (by kernel_rfl) (by kernel_rfl) (fun _ _ _ h => h) hS0 (Or.inl ⟨by rfl, ?_⟩) ?_
        rotate_left
        · (intro w hSw; (try dsimp only at hSw); go_simp; (try with_reducible rfl))
        try simp only [Act.put, List.setIfInBounds_toArray, List.set_cons_zero, List.set_cons_succ]
        refine wpAnyZ_take 7 (v := ?_) (by kernel_rfl) rfl rfl (by kernel_rfl) (by kernel_rfl) (by kernel_rfl) (fun _ _ _ h => h) hS0 (Or.inl ⟨by rfl, ?_⟩) ?_
        rotate_left
        · (intro w hSw; (try dsimp only at hSw); go_simp; (try with_reducible rfl))
        try simp only [Act.put, List.setIfInBounds_toArray, List.set_cons_zero, List.set_cons_succ]
        refine wpAnyZ_one 8 (by kernel_rfl) rfl rfl (fun K hK => ?_)
        go_simp
        refine hK.out _ _ (K0.out _ (by first | exact ((Ext.refl _).drew).alloc _ | exact ((Ext.refl _).alloc _).drew)) ?_
        clear hK K
        try simp only [Act.put, List.setIfInBounds_toArray, List.set_cons_zero, List.set_cons_succ]
        refine wpAnyZ_one 9 (by kernel_rfl) rfl rfl (fun K hK => ?_)
        refine wp_append_lies _ _ _ _ (by rfl) (w.heap.size + 2) 38 i0 _ 2 16 Try.underlying23 HI.out HZ0.out HZ1.out HZ2.out rfl (by omega) v m _ (by rfl) (hown.out.alloc _).drew
              ⟨wr.heap.size, 0, none⟩ 1 1 [.int .i64 a, .int .i64 (k : Int)] (by rfl) (by rfl) (World.news_of_block (cs := #[.int .i64 a, .int .i64 (k : Int)]) (t := 38) (fr := (0, 0)) (heap_alloc_new wr _)) (by simp [Value.oneCell'])
              (by omega) (by unfold maxLen; omega) (by omega) (by simp; omega) (wr.heap.size + 1) (by simp) ?_
        intro gg cp w1 hown1 hg1 hat hlt1
        have BB1 := own_blk ((hB1.out.alloc _).drew) ((hown.out.alloc _).drew) (by omega) hg1
        have bb1 := BB1.cell 0
        have fz1 := BB1.frozen 0
        clear BB1
        have hSa := KA.out _ _ (by first | exact ((Ext.refl _).drew).alloc _ | exact ((Ext.refl _).alloc _).drew) hg1
        refine hK.out _ _ hSa ?_
        clear hK K
        try simp only [Act.put, List.setIfInBounds_toArray, List.set_cons_zero, List.set_cons_succ]
        refine wpAnyZ_one 10 (by kernel_rfl) rfl rfl (fun K hK => ?_)
        go_simp
        refine hK.out _ _ hSa ?_
        clear hK K
        try simp only [Act.put, List.setIfInBounds_toArray, List.set_cons_zero, List.set_cons_succ]
        refine wpAnyZ_last (by kernel_rfl) (by kernel_rfl) rfl rfl (fun K hK => ?_)
        go_simp
        refine hK.out _ _ ?_
        clear hK K
        have hg2 : (wr.drew.alloc (.cells #[.int .i64 a, .int .i64 (k : Int)] 38)).grownBy w1 v.ownBlock := hg1
        obtain ⟨E1, K1, O1⟩ := push_box hE.drew hB1.out.drew hown.out.drew (by omega) (by omega) (by omega) hg2 hown1
        have Kr := push_blk (gc := w.heap.size + 1) (v1 := .slice (some ⟨gg, 0, none⟩) (m + 1) cp) hB0.out.drew hown.out.drew (by omega) (by omega) hg2
        have HE1 := Lib.hid E1
        have HK1 := Lib.hid K1
        have HO1 := Lib.hid O1
        have HKr := Lib.hid Kr
        have HS1 := Lib.hid hSa
        clear E1 K1 O1 Kr hg1 hg2 hown1 hat hSa bb1 fz1 hS0 K0 KA
        have net2 := (HS1.out).2
        have netw := ((HE1.out).cell HC0.out)
        have hzw1 := HK1.out.lt
        go_wp2
        go_roundw
        case rel =>
          refine ⟨k + 1, z, by omega, by omega, by go_num, rfl, HN2.out, HE1.out, HKr.out, _, m + 1, by omega, HK1.out, ?_⟩
          rw [HU.out, encT_append]
          simpa [encT, Hid] using HO1.out
        case measure => simp [intOf]; omega
    · obtain rfl : k = 13 := by omega
      obtain ⟨A1, c1, rfl⟩ := own_slice hown.out
      have HD : Hid (noD ts bd = if z < 0 then 0 else z) := by unfold noD Hid; rw [← hz.out]; split <;> omega
      obtain ⟨d, hd⟩ : ∃ d, noD ts bd = d := ⟨_, rfl⟩
      have HDd := Lib.hid hd
      clear hd
      have b1 := hB1.out.cell 0
      have f2 := hB1.out.frozen 1
      have b2 := hB1.out.cell 1
      have hOP := own_parts hown.out
      have HP := Lib.hid hOP
      have hm1 : m ≤ maxLen := by unfold maxLen; omega
      have HML : Hid ((noT ts).length = m) := by have := hown.out.1; rw [encT_length] at this; show (nfUp ts 13).length = m; omega
      have KB : Kept (w.heap.size + 1) (w.heap.size + 2) wr (wr.setCell ⟨w.heap.size + 1, 1, none⟩ (.int .i64 d)) := (Kept.refl _ _ wr).setIn (p := ⟨w.heap.size + 1, 1, none⟩) (by simp) _
      have HSG := Lib.hid (hOP.1.kept hOP.2.2 KB (.inr (Nat.le_refl _)))
      have HG2 := Lib.hid (show Got w (wr.setCell ⟨w.heap.size + 1, 1, none⟩ (.int .i64 d)) 2 A1 m (encT (noT ts)) from ⟨hOP.1.kept hOP.2.2 KB (.inr (Nat.le_refl _)), hOP.2.1.kept hOP.1 hOP.2.2 KB (.inr (Nat.le_refl _)), hOP.2.2.wide (by omega) (by simp)⟩)
      have HE2 := Lib.hid (hE.setNew (p := ⟨w.heap.size + 1, 1, none⟩) (by simp) (.int .i64 d))
      have HBB := Lib.hid (hB1.out.set_ 1 (.int .i64 d))
      have HB02 := Lib.hid (hB0.out.far (p := ⟨w.heap.size + 1, 1, none⟩) (by simp) (.int .i64 d))
      have hlies : Hid (Lies (w.heap.size + 2) wr.heap.size A1 m) := hOP.2.2
      clear hOP KB
      by_cases hz0 : z < 0
      · have hdd : d = (if z < 0 then 0 else z) := HDd.out.symm.trans HD.out
        rw [if_pos hz0] at hdd
        subst hdd
        go_wp2_with fail
        refine (specCV_any A1 m c1 (noT ts) 0 _ hm1 HSG.out).mono ?_
        rintro e w2 ⟨rfl, hE3⟩
        have bb0 := (HBB.out.ext hE3).cell 0
        have bb1 := (HBB.out.ext hE3).cell 1
        have r0 := (HB02.out.ext hE3).cell 0
        have r1 := (HB02.out.ext hE3).cell 1
        have q0 := (HB02.out.ext hE3).frozen 0
        have q1 := (HB02.out.ext hE3).frozen 1
        have hzw2 := hE3.size
        rw [World.size_setCell] at hzw2
        have HE3 := Lib.hid hE3
        clear hE3 b1 f2 b2
        by_cases hok : noB ts bd = true
        · have HOK := Lib.hid hok
          have hcv : cvB (noT ts) (noD ts bd) = true := hok
          rw [HDd.out] at hcv
          rw [hcv]
          clear hcv hok
          go_wp2
          refine bodyPost_ret (v := .tuple #[.agg #[.slice A1 m c1, .int .i64 0], .bool true]) (by simp [results, Try.results93, go_sem, r0, r1]; try rfl) rfl ?_
          have KR : Kept w.heap.size (w.heap.size + 1) w2 _ := ((Kept.refl _ _ w2).setIn (p := ⟨w.heap.size, 0, none⟩) (by simp) (.slice A1 m c1)).setIn (p := ⟨w.heap.size, 1, none⟩) (by simp) (.int .i64 0)
          have G0 := HG2.out.later HE3.out
          refine ⟨A1, m, c1, by unfold vD; rw [if_pos HOK.out, HOK.out, HDd.out], by unfold vT; rw [if_pos HOK.out]; exact HML.out, ?_, ((HE2.out.trans HE3.out).setNew (p := ⟨w.heap.size, 0, none⟩) (Nat.le_refl _) _).setNew (p := ⟨w.heap.size, 1, none⟩) (Nat.le_refl _) _⟩
          unfold vT; rw [if_pos HOK.out]
          have L2 := hlies.out.wide (lo' := w.heap.size + 1) (Nat.le_succ _) hzw2
          exact ⟨G0.seg.kept L2 KR (.inr (Nat.le_refl _)), G0.free.kept G0.seg L2 KR (.inr (Nat.le_refl _)), G0.lies.wide (Nat.le_refl _) (by simp)⟩
        · have hok' : noB ts bd = false := by simpa using hok
          have HOK := Lib.hid hok'
          have hcv : cvB (noT ts) (noD ts bd) = false := hok'
          rw [HDd.out] at hcv
          rw [hcv]
          clear hcv hok hok'
          go_wp2
          refine bodyPost_ret (v := .tuple #[.agg #[.slice none 0 0, .int .i64 0], .bool false]) (by simp [results, Try.results93, go_sem, r0, r1]) rfl ?_
          exact (RetCB.zero (((HE2.out.trans HE3.out).setNew (p := ⟨w.heap.size, 0, none⟩) (Nat.le_refl _) _).setNew (p := ⟨w.heap.size, 1, none⟩) (Nat.le_refl _) _)).of_eq (by unfold vT; rw [if_neg (by rw [HOK.out]; simp)]) (by unfold vD; rw [if_neg (by rw [HOK.out]; simp)]) HOK.out.symm
      · have hdd : d = (if z < 0 then 0 else z) := HDd.out.symm.trans HD.out
        rw [if_neg hz0] at hdd
        obtain rfl : z = d := hdd.symm
        go_wp2_with fail
        refine (specCV_any A1 m c1 (noT ts) z _ hm1 HSG.out).mono ?_
        rintro e w2 ⟨rfl, hE3⟩
        have bb0 := (HBB.out.ext hE3).cell 0
        have bb1 := (HBB.out.ext hE3).cell 1
        have r0 := (HB02.out.ext hE3).cell 0
        have r1 := (HB02.out.ext hE3).cell 1
        have q0 := (HB02.out.ext hE3).frozen 0
        have q1 := (HB02.out.ext hE3).frozen 1
        have hzw2 := hE3.size
        rw [World.size_setCell] at hzw2
        have HE3 := Lib.hid hE3
        clear hE3 b1 f2 b2
        by_cases hok : noB ts bd = true
        · have HOK := Lib.hid hok
          have hcv : cvB (noT ts) (noD ts bd) = true := hok
          rw [HDd.out] at hcv
          rw [hcv]
          clear hcv hok
          go_wp2
          refine bodyPost_ret (v := .tuple #[.agg #[.slice A1 m c1, .int .i64 z], .bool true]) (by simp [results, Try.results93, go_sem, r0, r1]; try rfl) rfl ?_
          have KR : Kept w.heap.size (w.heap.size + 1) w2 _ := ((Kept.refl _ _ w2).setIn (p := ⟨w.heap.size, 0, none⟩) (by simp) (.slice A1 m c1)).setIn (p := ⟨w.heap.size, 1, none⟩) (by simp) (.int .i64 z)
          have G0 := HG2.out.later HE3.out
          refine ⟨A1, m, c1, by unfold vD; rw [if_pos HOK.out, HOK.out, HDd.out], by unfold vT; rw [if_pos HOK.out]; exact HML.out, ?_, ((HE2.out.trans HE3.out).setNew (p := ⟨w.heap.size, 0, none⟩) (Nat.le_refl _) _).setNew (p := ⟨w.heap.size, 1, none⟩) (Nat.le_refl _) _⟩
          unfold vT; rw [if_pos HOK.out]
          have L2 := hlies.out.wide (lo' := w.heap.size + 1) (Nat.le_succ _) hzw2
          exact ⟨G0.seg.kept L2 KR (.inr (Nat.le_refl _)), G0.free.kept G0.seg L2 KR (.inr (Nat.le_refl _)), G0.lies.wide (Nat.le_refl _) (by simp)⟩
        · have hok' : noB ts bd = false := by simpa using hok
          have HOK := Lib.hid hok'
          have hcv : cvB (noT ts) (noD ts bd) = false := hok'
          rw [HDd.out] at hcv
          rw [hcv]
          clear hcv hok hok'
          go_wp2
          refine bodyPost_ret (v := .tuple #[.agg #[.slice none 0 0, .int .i64 0], .bool false]) (by simp [results, Try.results93, go_sem, r0, r1]) rfl ?_
          exact (RetCB.zero (((HE2.out.trans HE3.out).setNew (p := ⟨w.heap.size, 0, none⟩) (Nat.le_refl _) _).setNew (p := ⟨w.heap.size, 1, none⟩) (Nat.le_refl _) _)).of_eq (by unfold vT; rw [if_neg (by rw [HOK.out]; simp)]) (by unfold vD; rw [if_neg (by rw [HOK.out]; simp)]) HOK.out.symm
end Go.Proofs.Ytbpkpcfhmglddaa
