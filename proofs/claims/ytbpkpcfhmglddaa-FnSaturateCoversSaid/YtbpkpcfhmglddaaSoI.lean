/- The sort by variable and the compaction of a list of literals in memory of the call's own. -/
import Derived.Test.YtbpkpcfhmglddaaSoM
import Derived.Test.YtbpkpcfhmglddaaShelf
import Derived.Test.YtbpkpcfhmglddaaInts
import Derived.Test.YtbpkpcfhmglddaaClone
import Derived.Shelf.SlSortCmp.Whole1
import Derived.Lib.RowBridge
namespace Go.Proofs.Ytbpkpcfhmglddaa
open Go.RowKit Go.Sort

set_option maxHeartbeats 1000000 in
theorem coClo_any (x y : L12) (W : World) : Calls Try.prog 27 #[encL x, encL y] W fun e w' => e = .returned (.int .i64 (cfL x y)) ∧ ∃ q, w' = W.drewN q := by
  obtain ⟨x, hx⟩ := x
  obtain ⟨y, hy⟩ := y
  have ax : 0 ≤ absI x ∧ absI x ≤ 12 := by unfold absI; split <;> omega
  have ay : 0 ≤ absI y ∧ absI y ≤ 12 := by unfold absI; split <;> omega
  obtain ⟨z, hz⟩ : ∃ z, absI x - absI y = z := ⟨_, rfl⟩
  have hz2 : -12 ≤ z ∧ z ≤ 12 := by omega
  show Calls Try.prog 27 #[.int .i64 x, .int .i64 y] W fun e w' => e = .returned (.int .i64 (absI x - absI y)) ∧ _
  obtain ⟨a, ha⟩ : ∃ a, absI x = a := ⟨_, rfl⟩
  obtain ⟨b, hb⟩ : ∃ b, absI y = b := ⟨_, rfl⟩
  rw [ha, hb] at hz
  rw [ha] at ax
  rw [hb] at ay
  have HA := Lib.hid ha
  have HB := Lib.hid hb
  rw [ha, hb]
  clear ha hb
  go_enter Try.func27, Try.ntmps27
  go_wp2_with fail
  refine (calls_val (variableOf_any x _ (by omega) (by omega)) (congrArg (Value.int .i64) HA.out)).mono ?_
  rintro e w1 ⟨rfl, rfl⟩
  go_wp2_with fail
  refine (calls_val (variableOf_any y _ (by omega) (by omega)) (congrArg (Value.int .i64) HB.out)).mono ?_
  rintro e w1 ⟨rfl, rfl⟩
  go_wp2
  go_ret
  exact ⟨by rw [hz]; rfl, 0, rfl⟩

/-- the sort: what the row holds behind it -/
theorem sortI_any (b off cap : Nat) (zs : List Int) (w : World) (hz : ∀ l ∈ zs, -12 ≤ l ∧ l ≤ 12) (hH : Holds encL w b off (toLs zs)) (hb : b < w.heap.size) (hl : zs.length ≤ 1000) :
    Calls Try.prog 26 #[.slice (some ⟨b, off, none⟩) zs.length cap, .func (.func 27) #[] #[]] w fun e w' => e = .returned (.tuple #[]) ∧
      ∃ ys : List Int, ys.length = zs.length ∧ (∀ l, l ∈ ys ↔ l ∈ zs) ∧ (∀ i j, i < j → j < ys.length → absI ys.toArray[i]! ≤ absI ys.toArray[j]!) ∧ Holds (Value.int .i64) w' b off ys.toArray ∧ Kept b (b + 1) w w' := by
  have eg : ∀ args w, (callFunc 27 args).run Try.prog w = .ok (.enter 27 args) w := enters_of Try.func27 (by kernel_rfl) rfl
  have hc : CmpReads Try.prog 27 #[] encL cfL b off (toLs zs).size w := fun _ _ _ _ x y => coClo_any x y _
  have h := Any.slices_SortFunc Try.laysSort encL (fun _ => rfl) cfL swoL 27 #[] b off cap (toLs zs) w eg hc.lays hH hb (by rw [toLs_size]; omega)
  rw [toLs_size] at h
  refine Calls.mono h ?_
  rintro e w' ⟨he, d, n, os, hp, hs, rfl⟩
  rw [← toLs_size zs] at hp hs
  obtain ⟨h1, h2, h3⟩ := sorted_of hz hp hs
  exact ⟨he, fromLs d, h1, h2, h3, holds_seg (holds_sortWorld encL w b off n (toLs zs) d os hb hH (hp.1)), kept_sortWorld encL w b off n d os⟩

/-- the compaction -/
theorem compI_any (b off cap : Nat) (ys : List Int) (w : World) (hH : Holds (Value.int .i64) w b off ys.toArray) (hl : ys.length ≤ 1000) (hcap : ys.length ≤ cap) :
    Calls Try.prog 29 #[.slice (some ⟨b, off, none⟩) ys.length cap] w fun e w' =>
      e = .returned (.slice (some ⟨b, off, none⟩) (Lib.compact ys).length cap) ∧ Seg w' 1 (some ⟨b, off, none⟩) (Lib.compact ys).length (encI (Lib.compact ys)) ∧ Kept b (b + 1) w w' := by
  have h := Any.slices_Compact_int Try.laysComp b off cap ys w hH (by omega) hcap
  refine Calls.mono h ?_
  rintro e w' ⟨he, q, rfl⟩
  have hle := Lib.compact_length_le ys
  refine ⟨he, ?_, kept_putRow _ w b off q _⟩
  refine seg_of_holds (holds_putRow (Value.int .i64) (Sort.ahead w q) b off ys.toArray _ hH (by simp; omega)) (by simp) (fun j hj => ?_) rfl
  rw [getElem!_pos _ j (by simp; omega), getElem!_pos _ j hj]
  simp [hj]

/-- the sort and the compaction of nothing -/
theorem insZero_any (A : Option Addr) (cap g : Nat) (w : World) :
    Calls Try.prog 55 #[.slice A 0 cap, .int .i64 0, .int .i64 0, .func (.func g) #[] #[]] w fun e w' => e = .returned (.tuple #[]) ∧ Ext w w' := by
  go_enter Try.func55, Try.ntmps55
  go_wp2_with fail
  go_loop [8] (fun i => i = .int .i64 1) (fun _ => 0)
  case atStart => rfl
  case round =>
    obtain rfl := hrel
    go_wp2
    go_end0
    exact ⟨rfl, Ext.refl _⟩

theorem pdqZero_any (A : Option Addr) (cap g : Nat) (k : Int) (w : World) :
    Calls Try.prog 46 #[.slice A 0 cap, .int .i64 0, .int .i64 0, .int .i64 k, .func (.func g) #[] #[]] w fun e w' => e = .returned (.tuple #[]) ∧ Ext w w' := by
  go_enter Try.func46, Try.ntmps46
  go_wp2_with fail
  go_loop [1, 2] (fun a b => a = .int .i64 0 ∧ b = .int .i64 0) (fun _ _ => 0)
  case atStart => exact ⟨rfl, rfl⟩
  case round =>
    obtain ⟨rfl, rfl⟩ := hrel
    go_wp2_with fail
    refine (insZero_any A cap g w).mono ?_
    rintro e w1 ⟨rfl, hE⟩
    go_wp2
    refine bodyPost_ret (v := .tuple #[]) (by simp [results, Try.results46, go_sem]) rfl ?_
    exact ⟨rfl, hE⟩

theorem sortZero_any (A : Option Addr) (cap g : Nat) (w : World) :
    Calls Try.prog 26 #[.slice A 0 cap, .func (.func g) #[] #[]] w fun e w' => e = .returned (.tuple #[]) ∧ Ext w w' := by
  have HL := Lib.hid (Any.bits_Len Try.lays125 0 w (by omega) (by omega))
  go_enter Try.func26, Try.ntmps26
  go_wp2_with fail
  refine HL.out.mono ?_
  rintro e w1 ⟨rfl, rfl⟩
  go_wp2_with fail
  refine (pdqZero_any A cap g _ _).mono ?_
  rintro e w1 ⟨rfl, hE⟩
  go_wp2
  go_end0
  exact ⟨rfl, hE⟩

/-- a row of the call's own, behind the sort -/
def SrtRow (w : World) (base top : Nat) (A : Option Addr) (n c : Nat) (ys : List Int) : Prop :=
  ys.length = n ∧ top ≤ w.heap.size ∧ (0 < n → ∃ b off, A = some ⟨b, off, none⟩ ∧ base ≤ b ∧ b < top ∧ n ≤ c ∧ Holds (Value.int .i64) w b off ys.toArray)
theorem SrtRow.ext {w w' : World} {base top : Nat} {A : Option Addr} {n c : Nat} {ys : List Int} (h : SrtRow w base top A n c ys) (hE : Ext w w') : SrtRow w' base top A n c ys :=
  ⟨h.1, Nat.le_trans h.2.1 hE.size, fun hn => by
    obtain ⟨b, off, e, hb, hlt, hc, hH⟩ := h.2.2 hn
    refine ⟨b, off, e, hb, hlt, hc, fun j hj => ?_⟩
    obtain ⟨c1, f1⟩ := hH j hj
    exact ⟨hE.cell c1, (hE.frozen c1).trans f1⟩⟩

theorem sortOwn_any (A : Option Addr) (n c base : Nat) (zs : List Int) (w : World) (hz : ∀ l ∈ zs, -12 ≤ l ∧ l ≤ 12) (hown : w.ownsRow base 3 1 (.slice A n c) n (encI zs)) (hl : n ≤ 1000) (hb : base ≤ w.heap.size) :
    Calls Try.prog 26 #[.slice A n c, .func (.func 27) #[] #[]] w fun e w' => e = .returned (.tuple #[]) ∧
      ∃ (ys : List Int) (lo hi : Nat), (∀ l, l ∈ ys ↔ l ∈ zs) ∧ (∀ i j, i < j → j < ys.length → absI ys.toArray[i]! ≤ absI ys.toArray[j]!) ∧ SrtRow w' base w.heap.size A n c ys ∧ base ≤ lo ∧ hi ≤ w.heap.size ∧ Kept lo hi w w' := by
  have hlen : zs.length = n := by have := hown.1; simpa [encI] using this
  rcases Nat.eq_zero_or_pos n with h0 | hpos
  · subst h0
    obtain rfl : zs = [] := List.eq_nil_of_length_eq_zero hlen
    refine (sortZero_any A c _ w).mono ?_
    rintro e w' ⟨rfl, hE⟩
    exact ⟨rfl, [], base, base, fun l => Iff.rfl, fun i j _ hj => by simp at hj, ⟨rfl, hE.size, fun h => absurd h (by omega)⟩, Nat.le_refl _, hb, hE.kept _ _⟩
  · rcases hown.2 with ⟨hv, hn⟩ | ⟨g, cap, cur, hv, hg, hh, hnc, _, hcs, htake⟩
    · omega
    · injection hv with hA _ hcc
      subst hA hcc
      have hglt : g < w.heap.size := (Array.getElem?_eq_some_iff.1 hh).1
      have hP := own_parts hown
      have hH : Holds encL w g 0 (toLs zs) := fun j hj => by
        rw [toLs_size] at hj
        obtain ⟨b', off', e, hc⟩ := hP.1.2 hpos
        injection e with e
        injection e with e1 e2 _
        subst e1 e2
        refine ⟨?_, hP.2.1 _ _ rfl j (by omega)⟩
        rw [toLs_at hz hj]
        exact hc j _ (by simp [encI, hj])
      have h := sortI_any g 0 c zs w hz hH hglt (by omega)
      rw [hlen] at h
      refine h.mono ?_
      rintro e w' ⟨rfl, ys, h1, h2, h3, h4, h5⟩
      exact ⟨rfl, ys, g, g + 1, h2, h3, ⟨h1, h5.size, fun _ => ⟨g, 0, rfl, hg, hglt, hnc, h4⟩⟩, hg, hglt, h5⟩

theorem compOwn_any (A : Option Addr) (n c base top : Nat) (ys : List Int) (w : World) (hS : SrtRow w base top A n c ys) (hl : n ≤ 1000) (hb : base ≤ top) :
    Calls Try.prog 29 #[.slice A n c] w fun e w' => e = .returned (.slice A (Lib.compact ys).length c) ∧ Seg w' 1 A (Lib.compact ys).length (encI (Lib.compact ys)) ∧
      Lies base top A (Lib.compact ys).length ∧ ∃ lo hi : Nat, base ≤ lo ∧ hi ≤ top ∧ Kept lo hi w w' := by
  rcases Nat.eq_zero_or_pos n with h0 | hpos
  · subst h0
    obtain rfl : ys = [] := List.eq_nil_of_length_eq_zero hS.1
    refine Calls.mono (Any.slices_Compact_int_empty Try.laysComp A c w) ?_
    rintro e w' ⟨rfl, rfl⟩
    exact ⟨rfl, Seg.nil _ _ _, fun h => absurd h (by simp [Lib.compact, Lib.compactUpTo]), base, base, Nat.le_refl _, hb, Kept.refl _ _ _⟩
  · obtain ⟨b, off, rfl, hb1, hlt, hc, hH⟩ := hS.2.2 hpos
    have h := compI_any b off c ys w hH (by rw [hS.1]; exact hl) (by rw [hS.1]; exact hc)
    rw [hS.1] at h
    refine h.mono ?_
    rintro e w' ⟨rfl, h1, h2⟩
    exact ⟨rfl, h1, fun _ ad e => by injection e with e; subst e; exact ⟨hb1, hlt⟩, b, b + 1, hb1, hlt, h2⟩

theorem Try.infoClO : (Try.prog.info? 3).map (fun i => (i.zero, i.size, i.bytes)) = some (some (.int .i64 0), 1, 8) := by kernel_rfl
set_option maxRecDepth 100000 in
set_option maxHeartbeats 2000000 in
/-- slices.Clone over integers, in the words of append -/
theorem cloneIo_any (A : Option Addr) (n cap : Nat) (xs : List Int) (w : World) (hn : n ≤ 1048576) (h : Seg w 1 A n (encI xs)) :
    Calls Try.prog 25 #[.slice A n cap] w fun e w' => (∃ A' c', e = .returned (.slice A' n c') ∧ w'.ownsRow w.heap.size 3 1 (.slice A' n c') n (encI xs)) ∧ Ext w w' := by
  obtain ⟨i0, hi, hz0, hz1, hz2⟩ := info_parts Try.infoClO
  have q22 : ∀ (w : World) (a : Option Addr) (n c n' c' : Nat), (binOp .eql 22 (.slice a n c) (.slice none n' c')).run Try.prog w = .ok (.bool a.isNone) w := fun w a n c n' c' => Lib.run_eql_slice_nil w _ _ a n c n' c' Try.underlying22
  have hl := h.1
  have hone := Lib.hid (oneI xs)
  cases A with
  | none =>
    have h0 : n = 0 := by
      rcases Nat.eq_zero_or_pos n with h0 | h0
      · exact h0
      · obtain ⟨b, off, e, _⟩ := h.2 h0; cases e
    subst h0
    have hx := h.zero
    rw [hx]
    clear h hl hx hone hi hz0 hz1 hz2
    go_enter Try.func25, Try.ntmps25
    go_wp2
    go_ret
    exact ⟨⟨none, 0, rfl, World.ownsRow_nil _ _ _ _⟩, Ext.refl _⟩
  | some ad =>
    have hc : Hid (∀ j u, (encI xs)[j]? = some u → w.cell? (ad.add j) = some u) := fun j u hu => by
      have hj : j < n * 1 := by rw [← hl]; exact (List.getElem?_eq_some_iff.1 hu).1
      obtain ⟨b, off, e, hcc⟩ := h.2 (by omega)
      injection e with e; subst e
      have e2 : (⟨b, off, none⟩ : Addr).add j = ⟨b, off + j, none⟩ := by unfold Addr.add; split <;> simp_all
      rw [e2]; exact hcc j u hu
    have HL := Lib.hid hl
    clear h hl
    go_enter Try.func25, Try.ntmps25
    go_wp2_with (at_builtin; refine wpList_append_own _ rfl _ _ 22 rfl w.heap.size 3 i0 _ 1 8 Try.underlying22 hi hz0 hz1 hz2 rfl (by omega) _ _ _ rfl (World.ownsRow_made w #[] 0 (Nat.le_refl _) (Nat.zero_le _) (by simp)) ad n cap (encI xs) rfl HL.out ?_ hone.out ?_ ?_ ?_ ?_)
    · intro j u hj
      exact Lib.cell?_alloc_some _ (hc.out j u hj)
    · unfold maxLen; omega
    · omega
    · simp
    intro v' w1 hown hgrow _
    go_wp2
    go_ret
    have hown' : w1.ownsRow w.heap.size 3 1 v' n (encI xs) := by simpa using hown
    obtain ⟨A1, c1, rfl⟩ := own_slice hown'
    exact ⟨⟨A1, c1, rfl, hown'⟩, ((Ext.refl w).alloc _).grown hgrow (by intro k hk; simp [Value.ownBlock] at hk; omega)⟩
end Go.Proofs.Ytbpkpcfhmglddaa
