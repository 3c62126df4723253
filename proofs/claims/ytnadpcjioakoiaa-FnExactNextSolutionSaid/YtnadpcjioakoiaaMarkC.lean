/- The law's marks on a list of constraints: any number that is not below 0 comes back, and only the list's own memory turns. -/
import Derived.Test.YtnadpcjioakoiaaProb
import Derived.Test.YtnadpcjioakoiaaMark
import Derived.Test.YtnadpcjioakoiaaSetAt
namespace Go.Proofs.Ytnadpcjioakoiaa
open Go.RowKit

theorem encH_set1 : ∀ (hs : List Hd) (cs : List Cn) (k : Nat) (h : Hd) (c : Cn) (z : Int), hs[k]? = some h → cs[k]? = some c → (encH hs cs).set (k * 2 + 1) (.int .i64 z) = encH hs (cs.set k (c.1, z))
  | [], _, k, h, c, z, e, _ => by simp at e
  | _ :: _, [], k, h, c, z, _, e => by simp at e
  | x :: hs, y :: cs, 0, h, c, z, e1, e2 => by
    simp at e1 e2; subst e1; subst e2; rfl
  | x :: hs, y :: cs, k + 1, h, c, z, e1, e2 => by
    have := encH_set1 hs cs k h c z (by simpa using e1) (by simpa using e2)
    rw [show (k + 1) * 2 + 1 = (k * 2 + 1) + 1 + 1 from by omega]
    simp only [encH, List.set_cons_succ, this]

/-- a list of constraints in memory of its own: the headers' row in [lo, lo + 1), the rows behind it -/
structure OwnC (W : World) (lo hi : Nat) (A : Option Addr) (n : Nat) (hs : List Hd) (f : Nat → Nat) (cs : List Cn) : Prop where
  len : hs.length = n
  lenc : cs.length = n
  base : lo + 1 ≤ f 0
  mono : ∀ i, i < n → f i ≤ f (i + 1)
  top : f n ≤ hi
  seg : Seg W 2 A n (encH hs cs)
  free : Free W 2 A n
  lies : Lies lo (lo + 1) A n
theorem OwnC.ge {W : World} {lo hi : Nat} {A : Option Addr} {n : Nat} {hs : List Hd} {f : Nat → Nat} {cs : List Cn} (h : OwnC W lo hi A n hs f cs) : ∀ i, i ≤ n → lo + 1 ≤ f i := by
  intro i
  induction i with
  | zero => intro _; exact h.base
  | succ i ih => intro hi; exact Nat.le_trans (ih (by omega)) (h.mono i (by omega))
theorem OwnC.le {W : World} {lo hi : Nat} {A : Option Addr} {n : Nat} {hs : List Hd} {f : Nat → Nat} {cs : List Cn} (h : OwnC W lo hi A n hs f cs) : ∀ d i, i + d = n → f i ≤ hi := by
  intro d
  induction d with
  | zero => intro i e; have : i = n := by omega
            rw [this]; exact h.top
  | succ d ih => intro i e; exact Nat.le_trans (h.mono i (by omega)) (ih (i + 1) (by omega))
theorem OwnC.kept {W W' : World} {lo hi l2 h2 : Nat} {A : Option Addr} {n : Nat} {hs : List Hd} {f : Nat → Nat} {cs : List Cn} (h : OwnC W lo hi A n hs f cs) (k : Kept l2 h2 W W') (hd : lo + 1 ≤ l2) : OwnC W' lo hi A n hs f cs :=
  ⟨h.len, h.lenc, h.base, h.mono, h.top, h.seg.kept h.lies k (.inl hd), h.free.kept h.seg h.lies k (.inl hd), h.lies⟩
/-- the rows from number k on are as they were -/
def RowsC (W : World) (n : Nat) (hs : List Hd) (f : Nat → Nat) (k : Nat) : Prop :=
  ∀ i h, k ≤ i → i < n → hs[i]? = some h → ∃ ts : List Tm, h.2.1 ≤ 1048576 ∧ Seg W 2 h.1 h.2.1 (encT ts) ∧ Free W 2 h.1 h.2.1 ∧ Lies (f i) (f (i + 1)) h.1 h.2.1

theorem RowsC.kept {W W' : World} {n lo hi : Nat} {hs : List Hd} {f : Nat → Nat} {k k' : Nat} {A : Option Addr} {cs : List Cn} (h : RowsC W n hs f k) (hO : OwnC W lo hi A n hs f cs) (K : Kept (f k) (f k') W W') (hk : k ≤ k') : RowsC W' n hs f k' := by
  intro i x h1 h2 h3
  obtain ⟨ts, a, b, c, d⟩ := h i x (by omega) h2 h3
  have hm : f k' ≤ f i := by
    obtain ⟨d, rfl⟩ : ∃ d, i = k' + d := ⟨i - k', by omega⟩
    clear a b c d h3 h1
    induction d with
    | zero => exact Nat.le_refl _
    | succ d ih => exact Nat.le_trans (ih (by omega)) (hO.mono (k' + d) (by omega))
  exact ⟨ts, a, b.kept d K (.inr hm), c.kept b d K (.inr hm), d⟩
theorem RowsC.head {W W' : World} {n lo hi : Nat} {hs : List Hd} {f : Nat → Nat} {k : Nat} {A : Option Addr} {cs : List Cn} (h : RowsC W n hs f k) (hO : OwnC W lo hi A n hs f cs) (K : Kept lo (lo + 1) W W') : RowsC W' n hs f k := by
  intro i x h1 h2 h3
  obtain ⟨ts, a, b, c, d⟩ := h i x h1 h2 h3
  have hm := hO.ge i (by omega)
  exact ⟨ts, a, b.kept d K (.inr hm), c.kept b d K (.inr hm), d⟩

set_option maxRecDepth 100000 in
set_option maxHeartbeats 2000000 in
theorem markConstraintS_any (A : Option Addr) (n cap : Nat) (hs : List Hd) (f : Nat → Nat) (cs : List Cn) (z0 : Int) (w : World) (lo hi : Nat) (hn : n ≤ 1048576) (hz0 : 0 ≤ z0) (hz1 : z0 ≤ 4398046511104) (h : OwnC w lo hi A n hs f cs) (hr : RowsC w n hs f 0) :
    Calls Try.prog 57 #[.slice A n cap, .int .i64 z0] w fun e w' => ∃ z : Int, e = .returned (.int .i64 z) ∧ 0 ≤ z ∧ z ≤ z0 + n * 2097153 ∧ Kept lo hi w w' := by
  have HO := Lib.hid h
  have HR := Lib.hid hr
  clear h hr
  go_enter Try.func57, Try.ntmps57
  go_wp2_with fail
  go_loopw [1, 5] (fun q i wr => ∃ (k : Nat) (z : Int) (cs' : List Cn), k ≤ n ∧ i = .int .i64 k ∧ q = .int .i64 z ∧ 0 ≤ z ∧ z ≤ z0 + k * 2097153 ∧ Kept lo hi w wr ∧ Hid (OwnC wr lo hi A n hs f cs') ∧ Hid (RowsC wr n hs f k)) (fun _ i _ => n - (intOf i).toNat)
  case atStart => exact ⟨0, z0, cs, Nat.zero_le _, rfl, rfl, hz0, by omega, Kept.refl _ _ _, HO.out, HR.out⟩
  case round =>
    obtain ⟨k, z, cs', hk, rfl, rfl, hz, hz2, hK, hO, hR⟩ := hrel
    by_cases hlt : k < n
    · obtain ⟨x, hx⟩ : ∃ x, hs[k]? = some x := ⟨hs[k]'(by rw [hO.out.len]; exact hlt), List.getElem?_eq_getElem _⟩
      obtain ⟨c, hc⟩ : ∃ c, cs'[k]? = some c := ⟨cs'[k]'(by rw [hO.out.lenc]; exact hlt), List.getElem?_eq_getElem _⟩
      obtain ⟨ts, hx1, hx2, hx3, hx4⟩ := hR.out k x (Nat.le_refl _) hlt hx
      obtain ⟨b, off, rfl⟩ := hO.out.seg.addr (by omega)
      obtain ⟨_, _, e', hcell⟩ := hO.out.seg.2 (by omega)
      injection e' with e'; injection e' with e1 e2
      subst e1; subst e2
      have g := encH_get hs cs' k x c hx hc
      have c0 := hcell _ _ g.1
      obtain ⟨A1, n1, k1⟩ := x
      simp only at c0 hx1 hx2 hx3 hx4
      have hgl := hO.out.ge k (by omega)
      have hgu := hO.out.le (n - (k + 1)) (k + 1) (by omega)
      have hmo := hO.out.mono k hlt
      have HX := Lib.hid hx
      have HC := Lib.hid hc
      have HX2 := Lib.hid hx2
      have HX3 := Lib.hid hx3
      have HX4 := Lib.hid hx4
      clear hcell g hx hc hx2 hx3 hx4
      go_wp2_with fail
      refine (markTermS_any A1 n1 k1 ts z _ (f k) (f (k + 1)) hx1 hz (by omega) HX2.out HX3.out HX4.out).mono ?_
      rintro e w1 ⟨rfl, _, _, hK1⟩
      have hO1 := Lib.hid (hO.out.kept hK1 hgl)
      have hR1 := Lib.hid (hR.out.kept hO.out hK1 (Nat.le_succ k))
      have hKK := Lib.hid (hK.trans (hK1.wide (lo' := lo) (hi' := hi) (by omega) hgu))
      obtain ⟨_, _, e', hcell⟩ := hO1.out.seg.2 (by omega)
      injection e' with e'; injection e' with e1 e2
      subst e1; subst e2
      have g := encH_get hs cs' k _ c HX.out HC.out
      have d1 := hcell _ _ g.2
      have hf1 := hO1.out.free _ _ rfl (k * 2 + 1) (by omega)
      have hbl := hO1.out.lies (by omega) _ rfl
      simp only at hbl
      clear hcell g c0 hK1
      rw [← Nat.add_assoc] at d1 hf1
      go_wp2
      go_roundw
      case rel =>
        have KS : Kept lo (lo + 1) w1 (w1.setCell ⟨b, off + k * 2 + 1, none⟩ (.int .i64 (z + 2 * n1))) := (Kept.refl _ _ _).setIn (by simp only; omega) _
        refine ⟨k + 1, z + 2 * n1 + 1, cs'.set k (c.1, z + 2 * n1), by omega, by go_num, by first | rfl | go_num, by omega, by omega, hKK.out.trans (KS.wide (Nat.le_refl _) (by omega)), ?_, hR1.out.head hO1.out KS⟩
        have hs9 := Seg.setAt hO1.out.seg (i := k * 2 + 1) (by rw [hO1.out.seg.1]; omega) (.int .i64 (z + 2 * n1))
        rw [encH_set1 hs cs' k _ c _ HX.out HC.out, ← Nat.add_assoc] at hs9
        exact ⟨hO1.out.len, by rw [List.length_set]; exact hO1.out.lenc, hO1.out.base, hO1.out.mono, hO1.out.top, hs9, hO1.out.free.setCell _ _, hO1.out.lies⟩
      case measure => simp [intOf]; omega
    · obtain rfl : k = n := by omega
      go_wp2
      go_ret
      exact ⟨z, rfl, hz, hz2, hK⟩

theorem GotC.own {w w' : World} {A : Option Addr} {n : Nat} {cs : List Cn} (h : GotC w w' A n cs) : ∃ hs f, OwnC w' w.heap.size w'.heap.size A n hs f cs ∧ RowsC w' n hs f 0 := by
  obtain ⟨hs, f, ⟨h1, h2, h3, h4, h5⟩, hl, hS, hF, hL⟩ := h.all
  refine ⟨hs, f, ⟨h1, hl, h2, h3, h4, hS, hF, hL⟩, fun i x _ hi hx => ?_⟩
  obtain ⟨c, hc⟩ : ∃ c, cs[i]? = some c := ⟨cs[i]'(by omega), List.getElem?_eq_getElem _⟩
  obtain ⟨a, b, d, e⟩ := h5 i x c hx hc
  exact ⟨c.1, a, b, d, e⟩
theorem OwnC.ext {W W' : World} {lo hi : Nat} {A : Option Addr} {n : Nat} {hs : List Hd} {f : Nat → Nat} {cs : List Cn} (h : OwnC W lo hi A n hs f cs) (hE : Ext W W') : OwnC W' lo hi A n hs f cs :=
  ⟨h.len, h.lenc, h.base, h.mono, h.top, h.seg.ext hE, h.free.ext h.seg hE, h.lies⟩
theorem RowsC.ext {W W' : World} {n : Nat} {hs : List Hd} {f : Nat → Nat} {k : Nat} (h : RowsC W n hs f k) (hE : Ext W W') : RowsC W' n hs f k := by
  intro i x h1 h2 h3
  obtain ⟨ts, a, b, c, d⟩ := h i x h1 h2 h3
  exact ⟨ts, a, b.ext hE, c.ext b hE, d⟩
end Go.Proofs.Ytnadpcjioakoiaa
