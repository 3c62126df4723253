/- DivideConstraint, the program's and the reference's: all coefficients and the bound divided, rounded up. -/
import Derived.Test.YtihmkbfobihddaaOwn
import Derived.Test.YtihmkbfobihddaaTot
import Derived.Test.YtihmkbfobihddaaLastS
import Derived.Test.YtihmkbfobihddaaSetAt
import Derived.Deep.AppendLies
namespace Go.Proofs.Ytihmkbfobihddaa
open Go.RowKit

/-- the coefficients turned by f -/
def chMap (f : Int → Int) (ts : List Tm) : List Tm := ts.map fun t => (f t.1, t.2)
theorem chMap_len (f : Int → Int) (ts : List Tm) : (chMap f ts).length = ts.length := by simp [chMap]
theorem chMap_snoc (f : Int → Int) (ts : List Tm) (t : Tm) : chMap f (ts ++ [t]) = chMap f ts ++ [(f t.1, t.2)] := by simp [chMap]
/-- what 'changed' hands back -/
def chT (f : Int → Int) (ts : List Tm) (bd : Int) : List Tm := if cvB (chMap f ts) (f bd) = true then chMap f ts else []
def chD (f : Int → Int) (ts : List Tm) (bd : Int) : Int := if cvB (chMap f ts) (f bd) = true then f bd else 0

/-- divided and rounded up -/
def upM (k c : Int) : Int := (c + k - 1) / k
theorem upM_pos {k c : Int} (hk : 1 ≤ k) (hc : 1 ≤ c) : 1 ≤ upM k c ∧ upM k c ≤ c := by
  unfold upM
  refine ⟨Int.le_ediv_of_mul_le (by omega) (by omega), ?_⟩
  have h : (c - 1) * 1 ≤ (c - 1) * k := Int.mul_le_mul_of_nonneg_left hk (by omega)
  have : c + k - 1 < (c + 1) * k := by rw [Int.add_mul]; have e : c * k = (c - 1) * k + k := by rw [Int.sub_mul]; omega
                                       omega
  have := Int.ediv_lt_of_lt_mul (show (0 : Int) < k by omega) this
  omega
theorem upM_zero {k : Int} (hk : 1 ≤ k) : upM k 0 = 0 := by
  unfold upM
  exact Int.ediv_eq_zero_of_lt (by omega) (by omega)
theorem upM_nonneg {k c : Int} (hk : 1 ≤ k) (hc : 0 ≤ c) : 0 ≤ upM k c ∧ upM k c ≤ c := by
  rcases Int.lt_or_eq_of_le hc with h | rfl
  · have := upM_pos hk (show 1 ≤ c by omega); omega
  · rw [upM_zero hk]; omega
theorem goodB_chMap {f : Int → Int} (hf : ∀ c, 1 ≤ c → c ≤ 1000 → 1 ≤ f c ∧ f c ≤ 1000) (ts : List Tm) : ∀ v, goodB v ts = true → goodB v (chMap f ts) = true := by
  induction ts with
  | nil => intro v _; rfl
  | cons t ts ih =>
    intro v h
    obtain ⟨c, l⟩ := t
    rw [goodB_cons, Bool.and_eq_true, decide_eq_true_eq] at h
    have h2 := hf c h.1.2.2.1 h.1.2.2.2
    show goodB v ((f c, l) :: chMap f ts) = true
    rw [goodB_cons, Bool.and_eq_true, decide_eq_true_eq]
    exact ⟨⟨h.1.1, h.1.2.1, h2⟩, ih _ h.2⟩
theorem cvB_div {ts : List Tm} {bd k : Int} (h : cvB ts bd = true) (hk : 1 ≤ k) : cvB (chMap (upM k) ts) (upM k bd) = true := by
  have hb := cvB_bd h
  unfold cvB at h ⊢
  rw [Bool.and_eq_true] at h ⊢
  refine ⟨goodB_chMap (fun c h1 h2 => ?_) ts 0 h.1, ?_⟩
  · have := upM_pos hk h1; omega
  · have := upM_nonneg hk hb.1
    simp [inB]; omega
def dvB (ts : List Tm) (bd k : Int) : Bool := cvB ts bd && inB k 1 1000
def dvT (ts : List Tm) (bd k : Int) : List Tm := if dvB ts bd k = true then chMap (upM k) ts else []
def dvD (ts : List Tm) (bd k : Int) : Int := if dvB ts bd k = true then upM k bd else 0
theorem dvB_cv {ts : List Tm} {bd k : Int} (h : dvB ts bd k = true) : cvB ts bd = true := by unfold dvB at h; rw [Bool.and_eq_true] at h; exact h.1
theorem dvB_k {ts : List Tm} {bd k : Int} (h : dvB ts bd k = true) : 1 ≤ k ∧ k ≤ 1000 := by unfold dvB at h; rw [Bool.and_eq_true] at h; simpa [inB] using h.2
theorem dvT_len (ts : List Tm) (bd k : Int) : (dvT ts bd k).length ≤ 1048576 := by
  unfold dvT; split
  · rename_i h; have := cvB_len (dvB_cv h); rw [chMap_len]; omega
  · simp

/-- one element's coefficient turned -/
theorem encT_set1 (ts : List Tm) : ∀ (j : Nat) (c l c' : Int), ts[j]? = some (c, l) → (encT ts).set (j * 2) (.int .i64 c') = encT (ts.set j (c', l)) := by
  induction ts with
  | nil => intro j c l c' h; simp at h
  | cons t ts ih =>
    intro j c l c' h
    cases j with
    | zero =>
      simp only [List.getElem?_cons_zero, Option.some.injEq] at h
      subst h
      rfl
    | succ j =>
      rw [List.getElem?_cons_succ] at h
      rw [show (j + 1) * 2 = j * 2 + 1 + 1 from by omega]
      simp only [encT, List.set_cons_succ, ih j c l c' h]
theorem chMap_step (f : Int → Int) (ts : List Tm) (j : Nat) (c l : Int) (h : ts[j]? = some (c, l)) :
    ((chMap f (ts.take j) ++ ts.drop j).set j (f c, l)) = chMap f (ts.take (j + 1)) ++ ts.drop (j + 1) := by
  have hj : j < ts.length := (List.getElem?_eq_some_iff.1 h).1
  have hl : (chMap f (ts.take j)).length = j := by rw [chMap_len, List.length_take]; omega
  rw [drop_of_get _ _ _ h, take_of_get _ _ _ h, chMap_snoc, List.set_append_right _ _ (by omega), hl, Nat.sub_self, List.set_cons_zero, List.append_assoc]
  rfl
theorem chMap_at (f : Int → Int) (ts : List Tm) (j : Nat) (x : Tm) (h : ts[j]? = some x) : (chMap f (ts.take j) ++ ts.drop j)[j]? = some x := by
  have hj : j < ts.length := (List.getElem?_eq_some_iff.1 h).1
  have hl : (chMap f (ts.take j)).length = j := by rw [chMap_len, List.length_take]; omega
  rw [List.getElem?_append_right (by omega), hl, Nat.sub_self, drop_of_get _ _ _ h]
  rfl

set_option maxRecDepth 100000 in
set_option maxHeartbeats 4000000 in
theorem changed_any (g : Nat) (pk : Addr) (f : Int → Int) (eg : ∀ args w, (callFunc g args).run Try.prog w = .ok (.enter g args) w) (A : Option Addr) (n cap : Nat) (ts : List Tm) (bd : Int) (w : World)
    (h : Seg w 2 A n (encT ts)) (hv : cvB ts bd = true)
    (hp : ∀ (x : Int) (W : World), Ext w W → 0 ≤ x → x ≤ 20000 → Calls Try.prog g #[.int .i64 x, .pointer (some pk)] W fun e w' => e = .returned (.int .i64 (f x)) ∧ W = w') :
    Calls Try.prog 68 #[.agg #[.slice A n cap, .int .i64 bd], .func (.func g) #[] #[.pointer (some pk)]] w fun e w' => RetCB (chT f ts bd) (chD f ts bd) (cvB (chMap f ts) (f bd)) w e w' := by
  have HL := Lib.hid h.lenT
  have hn12 : n ≤ 12 := by have := cvB_len hv; rw [HL.out] at this; exact this
  have hb := cvB_bd hv
  have HV := Lib.hid hv
  have HP := Lib.hid hp
  clear hv hp
  go_enter Try.func68, Try.ntmps68
  go_wp2_with fail
  refine (own_any A n cap ts bd _ (by omega) ((h.alloc _).alloc _)).mono ?_
  rintro e w1 ⟨A1, n1, c1, rfl, hl, hG, hE1⟩
  obtain rfl : n1 = n := by have := HL.out; omega
  obtain ⟨B0, B1⟩ := Blk.of2 hE1
  have b1 := B0.cell 1
  have E1 : Ext w w1 := (((Ext.refl w).alloc _).alloc _).trans hE1
  have hz1 := B1.lt
  have hz0 := B0.lt
  clear h hl
  have HG := Lib.hid hG
  have HB1 := Lib.hid B1
  have HE := Lib.hid E1
  clear hG B1 B0 hE1 E1
  go_wp2_with fail
  refine (HP.out bd _ (HE.out.alloc _) (by omega) (by omega)).mono ?_
  rintro e w2 ⟨rfl, rfl⟩
  clear b1
  have hL : Hid (Lies (w.heap.size + 2) w1.heap.size A1 n1) := by
    have := HG.out.lies
    simpa [Hid] using this
  go_wp2_with fail
  go_loopw [18] (fun i wr => ∃ (j : Nat), j ≤ n1 ∧ i = .int .i64 j ∧ Ext w wr ∧ Hid (Blk wr (w.heap.size + 1) 33 #[.slice none 0 0, .int .i64 0]) ∧ Hid (Blk wr w1.heap.size 33 #[.slice A1 n1 c1, .int .i64 (f bd)]) ∧ Hid (Seg wr 2 A1 n1 (encT (chMap f (ts.take j) ++ ts.drop j))) ∧ Hid (Free wr 2 A1 n1)) (fun i _ => n1 - (intOf i).toNat)
  case atStart =>
    refine ⟨0, by omega, rfl, HE.out.alloc _, HB1.out.alloc _, Blk.new _ _ _, ?_, HG.out.free.ext HG.out.seg ((Ext.refl _).alloc _)⟩
    rw [List.take_zero, List.drop_zero]
    exact HG.out.seg.alloc _
  case round =>
    obtain ⟨j, hj, rfl, hE, hB1, hB2, hS, hF⟩ := hrel
    have b2 := hB2.out.cell 0
    by_cases hlt : j < n1
    · obtain ⟨b, off, c, l, rfl, hx, k1, k2⟩ := hS.out.term hlt
      have hj0 : j < ts.length := by rw [HL.out]; exact hlt
      have hx1 := chMap_at f ts j _ (List.getElem?_eq_getElem hj0)
      rw [hx] at hx1
      have hx2 : ts[j]? = some (c, l) := by rw [List.getElem?_eq_getElem hj0]; exact hx1.symm
      have hc := (cvB_get HV.out hx2).2
      have HX := Lib.hid hx
      have HX2 := Lib.hid hx2
      have hlies := hL.out (by omega) _ rfl
      simp only at hlies
      have kf := hF.out b off rfl (j * 2) (by omega)
      have K0 : Hid (∀ W, Ext wr W → (W.cell? ⟨w1.heap.size, 0, none⟩ = some (.slice (some ⟨b, off, none⟩) n1 c1) ∧ W.cell? ⟨b, off + j * 2, none⟩ = some (.int .i64 c))) := fun W e => ⟨e.cell b2, e.cell k1⟩
      have j0 : (0 : Int) ≤ (j : Int) := Int.natCast_nonneg _
      have j1 : (j : Int) < (n1 : Int) := by omega
      clear hx hx1 hx2
      go_wp2_with fail
      have hS0 := K0.out wr.drew (Ext.refl _).drew
      refine wp_region_Z (fun w' => w'.cell? ⟨w1.heap.size, 0, none⟩ = some (.slice (some ⟨b, off, none⟩) n1 c1) ∧ w'.cell? ⟨b, off + j * 2, none⟩ = some (.int .i64 c)) 13 (by kernel_rfl) ?_
      refine wpAnyZ_take 0 (v := ?_) (by kernel_rfl) rfl rfl (by kernel_rfl) (by kernel_rfl) (by kernel_rfl) (fun _ _ _ h => h) hS0 (Or.inl ⟨by rfl, ?_⟩) ?_
      rotate_left
      · (intro w hSw; (try dsimp only at hSw); go_simp; (try with_reducible rfl))
      try simp only [Act.put, List.setIfInBounds_toArray, List.set_cons_zero, List.set_cons_succ]
      refine wpAnyZ_take 1 (v := ?_) (by kernel_rfl) rfl rfl (by kernel_rfl) (by kernel_rfl) (by kernel_rfl) (fun _ _ _ h => h) hS0 (Or.inl ⟨by rfl, ?_⟩) ?_
      rotate_left
      · (intro w hSw; (try dsimp only at hSw); go_simp; (try with_reducible rfl))
      try simp only [Act.put, List.setIfInBounds_toArray, List.set_cons_zero, List.set_cons_succ]
      refine wpAnyZ_take 2 (v := ?_) (by kernel_rfl) rfl rfl (by kernel_rfl) (by kernel_rfl) (by kernel_rfl) (fun _ _ _ h => h) hS0 (Or.inl ⟨by rfl, ?_⟩) ?_
      rotate_left
      · (intro w hSw; (try dsimp only at hSw); go_simp; (try with_reducible rfl))
      try simp only [Act.put, List.setIfInBounds_toArray, List.set_cons_zero, List.set_cons_succ]
      refine wpAnyZ_take 3 (v := ?_) (by kernel_rfl) rfl rfl (by kernel_rfl) (by kernel_rfl) (by kernel_rfl) (fun _ _ _ h => h) hS0 (Or.inl ⟨by rfl, ?_⟩) ?_
      rotate_left
      · (intro w hSw; (try dsimp only at hSw); go_simp; (try with_reducible rfl))
      try simp only [Act.put, List.setIfInBounds_toArray, List.set_cons_zero, List.set_cons_succ]
      refine wpAnyZ_take 4 (v := ?_) (by kernel_rfl) rfl rfl (by kernel_rfl) (by kernel_rfl) (by kernel_rfl) (fun _ _ _ h => h) hS0 (Or.inl ⟨by rfl, ?_⟩) ?_
      rotate_left
      · (intro w hSw; (try dsimp only at hSw); go_simp; (try with_reducible rfl))
      try simp only [Act.put, List.setIfInBounds_toArray, List.set_cons_zero, List.set_cons_succ]
      refine wpAnyZ_take 5 (v := ?_) (by kernel_rfl) rfl rfl (by kernel_rfl) (by kernel_rfl) (by kernel_rfl) (fun _ _ _ h => h) hS0 (Or.inl ⟨by rfl, ?_⟩) ?_
      rotate_left
      · (intro w hSw; (try dsimp only at hSw); go_simp; (try with_reducible rfl))
      try simp only [Act.put, List.setIfInBounds_toArray, List.set_cons_zero, List.set_cons_succ]
      refine wpAnyZ_take 6 (v := ?_) (by kernel_rfl) rfl rfl (by kernel_rfl) (by kernel_rfl) (by kernel_rfl) (fun _ _ _ h => h) hS0 (Or.inl ⟨by rfl, ?_⟩) ?_
      rotate_left
      · (intro w hSw; (try dsimp only at hSw); go_simp; (try with_reducible rfl))
      try simp only [Act.put, List.setIfInBounds_toArray, List.set_cons_zero, List.set_cons_succ]
      refine wpAnyZ_take 7 (v := ?_) (by kernel_rfl) rfl rfl (by kernel_rfl) (by kernel_rfl) (by kernel_rfl) (fun _ _ _ h => h) hS0 (Or.inl ⟨by rfl, ?_⟩) ?_
      rotate_left
      · (intro w hSw; (try dsimp only at hSw); go_simp; (try with_reducible rfl))
      try simp only [Act.put, List.setIfInBounds_toArray, List.set_cons_zero, List.set_cons_succ]
      refine wpAnyZ_take 8 (v := ?_) (by kernel_rfl) rfl rfl (by kernel_rfl) (by kernel_rfl) (by kernel_rfl) (fun _ _ _ h => h) hS0 (Or.inl ⟨by rfl, ?_⟩) ?_
      rotate_left
      · (intro w hSw; (try dsimp only at hSw); go_simp; (try with_reducible rfl))
      try simp only [Act.put, List.setIfInBounds_toArray, List.set_cons_zero, List.set_cons_succ]
      refine wpAnyZ_take 9 (v := ?_) (by kernel_rfl) rfl rfl (by kernel_rfl) (by kernel_rfl) (by kernel_rfl) (fun _ _ _ h => h) hS0 (Or.inl ⟨by rfl, ?_⟩) ?_
      rotate_left
      · (intro w hSw; (try dsimp only at hSw); go_simp; (try with_reducible rfl))
      try simp only [Act.put, List.setIfInBounds_toArray, List.set_cons_zero, List.set_cons_succ]
      refine wpAnyZ_one 10 (by kernel_rfl) rfl rfl (fun K hK => ?_)
      go_simp
      refine (HP.out c _ hE.drew (by omega) (by omega)).mono ?_
      rintro e w2 ⟨rfl, rfl⟩
      refine hK.out _ _ hS0 ?_
      clear hK K
      try simp only [Act.put, List.setIfInBounds_toArray, List.set_cons_zero, List.set_cons_succ]
      refine wpAnyZ_one 11 (by kernel_rfl) rfl rfl (fun K hK => ?_)
      go_simp
      refine hK.out _ _ hS0 ?_
      clear hK K
      try simp only [Act.put, List.setIfInBounds_toArray, List.set_cons_zero, List.set_cons_succ]
      refine wpAnyZ_one 12 (by kernel_rfl) rfl rfl (fun K hK => ?_)
      go_simp
      refine hK.out _ _ hS0 ?_
      clear hK K
      try simp only [Act.put, List.setIfInBounds_toArray, List.set_cons_zero, List.set_cons_succ]
      refine wpAnyZ_last (by kernel_rfl) (by kernel_rfl) rfl rfl (fun K hK => ?_)
      go_simp
      refine hK.out _ _ ?_
      clear hK K
      go_wp2
      go_roundw
      case rel =>
        refine ⟨j + 1, by omega, by go_num, (hE.setNew (by simp only; omega) _).drew, (hB1.out.far (p := ⟨b, off + j * 2, none⟩) (by simp only; omega) _).drew, (hB2.out.far (p := ⟨b, off + j * 2, none⟩) (by simp only; omega) _).drew, ?_, ?_⟩
        · have := hS.out.setAt (i := j * 2) (by rw [encT_length]; have := hS.out.lenT; omega) (.int .i64 (f c))
          rw [encT_set1 _ j c l (f c) HX.out, chMap_step f ts j c l HX2.out] at this
          exact this
        · exact hF.out.setCell _ _
      case measure => simp [intOf]; omega
    · obtain rfl : j = n1 := by omega
      have b3 := hB2.out.cell 1
      have hN := hS.out
      rw [List.take_of_length_le (by rw [HL.out]; omega), List.drop_of_length_le (by rw [HL.out]; omega), List.append_nil] at hN
      have HN := Lib.hid hN
      have hzr := hB2.out.lt
      have hzr1 := hB1.out.lt
      have HE1 := Lib.hid hE
      clear hN hS
      go_wp2_with fail
      refine (valid_any A1 j c1 (chMap f ts) (f bd) _ (by unfold maxLen; omega) HN.out).mono ?_
      rintro e w3 ⟨hr, hE3⟩
      have hzr3 := hE3.size
      have B1 := hB1.out.ext hE3
      have r0 := B1.cell 0
      have r1 := B1.cell 1
      have q0 := B1.frozen 0
      have q1 := B1.frozen 1
      clear B1
      rcases hr with ⟨hv, rfl⟩ | ⟨hv, rfl⟩
      · have HV3 := Lib.hid hv
        have HE3 := Lib.hid hE3
        clear hv hE3 b2 b3
        go_wp2
        refine bodyPost_ret (v := .tuple #[.agg #[.slice A1 j c1, .int .i64 (f bd)], .bool true]) (by simp [results, Try.results68, go_sem, r0, r1]) rfl ?_
        have K : Kept (w.heap.size + 1) (w.heap.size + 2) w3 _ := ((Kept.refl _ _ w3).setIn (p := ⟨w.heap.size + 1, 0, none⟩) (by simp) (.slice A1 j c1)).setIn (p := ⟨w.heap.size + 1, 1, none⟩) (by simp) (.int .i64 (f bd))
        have L3 : Lies (w.heap.size + 2) w3.heap.size A1 j := hL.out.wide (Nat.le_refl _) (by omega)
        refine ⟨A1, j, c1, by unfold chD; rw [if_pos HV3.out, HV3.out], by unfold chT; rw [if_pos HV3.out, chMap_len, HL.out], ?_, ((HE1.out.trans HE3.out).setNew (by simp) _).setNew (by simp) _⟩
        unfold chT
        rw [if_pos HV3.out]
        exact ⟨(HN.out.ext HE3.out).kept L3 K (.inr (Nat.le_refl _)), (hF.out.ext HN.out HE3.out).kept (HN.out.ext HE3.out) L3 K (.inr (Nat.le_refl _)), L3.wide (by omega) K.size⟩
      · have HV3 := Lib.hid hv
        have HE3 := Lib.hid hE3
        clear hv hE3 b2 b3
        go_wp2
        refine bodyPost_ret (v := .tuple #[.agg #[.slice none 0 0, .int .i64 0], .bool false]) (by simp [results, Try.results68, go_sem, r0, r1]) rfl ?_
        exact (RetCB.zero (((HE1.out.trans HE3.out).setNew (by simp) _).setNew (by simp) _)).of_eq (by unfold chT; rw [if_neg (by rw [HV3.out]; simp)]) (by unfold chD; rw [if_neg (by rw [HV3.out]; simp)]) HV3.out.symm
end Go.Proofs.Ytihmkbfobihddaa
