/- Contracts of the law's own comparisons of terms and constraints: eqTerm, eqTermS, eqConstraint. -/
import Derived.Test.YtbpkpcfhmglddaaMemB
import Derived.Deep.RegionHeld3
namespace Go.Proofs.Ytbpkpcfhmglddaa
open Go.RowKit

def tmEq (t u : Tm) : Bool := decide (t = u)

set_option maxHeartbeats 400000 in
theorem eqTerm_any (c l c' l' : Int) (w : World) :
    Calls Try.prog 48 #[.agg #[.int .i64 c, .int .i64 l], .agg #[.int .i64 c', .int .i64 l']] w fun e w' => e = .returned (.bool (tmEq (c, l) (c', l'))) ∧ Ext w w' := by
  by_cases h1 : c = c'
  · subst h1
    by_cases h2 : l = l'
    · subst h2
      go_enter Try.func48, Try.ntmps48
      go_wp2
      go_ret
      exact ⟨by simp [tmEq], ((Ext.refl _).alloc _).alloc _⟩
    · have hb : (l == l') = false := by simpa using h2
      go_enter Try.func48, Try.ntmps48
      go_wp2
      go_ret
      exact ⟨by simp [tmEq, h2], ((Ext.refl _).alloc _).alloc _⟩
  · have hb : (c == c') = false := by simpa using h1
    go_enter Try.func48, Try.ntmps48
    go_wp2
    go_ret
    exact ⟨by simp [tmEq, h1], ((Ext.refl _).alloc _).alloc _⟩

theorem dec_drop {α : Type} [DecidableEq α] (xs ys : List α) (k : Nat) (x y : α) (hx : xs[k]? = some x) (hy : ys[k]? = some y) (h : decide (xs = ys) = decide (xs.drop k = ys.drop k)) :
    (x = y → decide (xs = ys) = decide (xs.drop (k + 1) = ys.drop (k + 1))) ∧ (x ≠ y → decide (xs = ys) = false) := by
  rw [drop_of_get xs k x hx, drop_of_get ys k y hy] at h
  constructor
  · rintro rfl; rw [h]; simp
  · intro hne; rw [h]; simp [hne]

set_option maxHeartbeats 1000000 in
theorem eqTermS_any (A A' : Option Addr) (n n' cap cap' : Nat) (ts us : List Tm) (w : World) (hn : n ≤ maxLen) (hn' : n' ≤ maxLen) (h : Seg w 2 A n (encT ts)) (h' : Seg w 2 A' n' (encT us)) :
    Calls Try.prog 30 #[.slice A n cap, .slice A' n' cap'] w fun e w' => e = .returned (.bool (decide (ts = us))) ∧ Ext w w' := by
  have hl := h.lenT
  have hl' := h'.lenT
  unfold maxLen at hn hn'
  by_cases hnn : n = n'
  · subst hnn
    have HL := Lib.hid hl; clear hl
    have HL' := Lib.hid hl'; clear hl'
    go_enter Try.func30, Try.ntmps30
    go_wp2
    go_loopw [5] (fun i wr => ∃ k : Nat, k ≤ n ∧ i = .int .i64 k ∧ Ext w wr ∧ Hid (decide (ts = us) = decide (ts.drop k = us.drop k))) (fun i _ => n - (intOf i).toNat)
    case atStart => exact ⟨0, Nat.zero_le _, rfl, Ext.refl _, rfl⟩
    case round =>
      obtain ⟨k, hk, rfl, hE, hD⟩ := hrel
      by_cases hlt : k < n
      · obtain ⟨b, off, c, l, hA, hx, c1, c2⟩ := (h.ext hE).term hlt
        obtain ⟨b', off', c', l', hA', hx', c1', c2'⟩ := (h'.ext hE).term hlt
        subst hA; subst hA'
        obtain ⟨D1, D2⟩ := dec_drop ts us k (c, l) (c', l') hx hx' hD.out
        have D1 := Lib.hid D1
        have D2 := Lib.hid D2
        clear hx hx' hD h h'
        have KS : Hid (∀ w', Ext wr w' → (w'.cell? ⟨b, off + k * 2, none⟩ = some (.int .i64 c) ∧ w'.cell? ⟨b, off + k * 2 + 1, none⟩ = some (.int .i64 l) ∧ w'.cell? ⟨b', off' + k * 2, none⟩ = some (.int .i64 c') ∧ w'.cell? ⟨b', off' + k * 2 + 1, none⟩ = some (.int .i64 l'))) :=
          fun w' e => ⟨e.cell c1, e.cell c2, e.cell c1', e.cell c2'⟩
        by_cases hcc : (c, l) = (c', l')
        all_goals
          first
            | (have D := Lib.hid (D1.out hcc); have hdec : tmEq (c, l) (c', l') = true := decide_eq_true hcc; clear D1 D2 hcc)
            | (have D := Lib.hid (D2.out hcc); have hdec : tmEq (c, l) (c', l') = false := decide_eq_false hcc; clear D1 D2 hcc)
          go_wp2_with fail
          go_region_held3 (fun w' => w'.cell? ⟨b, off + k * 2, none⟩ = some (.int .i64 c) ∧ w'.cell? ⟨b, off + k * 2 + 1, none⟩ = some (.int .i64 l) ∧ w'.cell? ⟨b', off' + k * 2, none⟩ = some (.int .i64 c') ∧ w'.cell? ⟨b', off' + k * 2 + 1, none⟩ = some (.int .i64 l'))
            ((refine KS.out _ ?_; first | exact (Ext.refl _).drew | exact ((Ext.refl _).drew).trans hE1))
            ((first | (go_at_call 48; refine (eqTerm_any _ _ _ _ _).mono ?_; rintro e w1 ⟨rfl, hE1⟩)))
          go_wp2
        · go_roundw
          case rel => exact ⟨k + 1, by omega, by go_num, hE.trans (((Ext.refl _).drew).trans hE1), D⟩
          case measure => simp [intOf]; omega
        · go_ret
          exact ⟨congrArg (fun x => Ending.returned (Value.bool x)) D.out.symm, hE.trans (((Ext.refl _).drew).trans hE1)⟩
      · go_wp2
        go_ret
        obtain rfl : k = n := by omega
        refine ⟨?_, hE⟩
        rw [hD.out]
        have a1 := HL.out
        have a2 := HL'.out
        rw [List.drop_of_length_le (by omega), List.drop_of_length_le (by omega)]
        rfl
  · have hb : ((n : Int) == (n' : Int)) = false := by simp; omega
    go_enter Try.func30, Try.ntmps30
    go_wp2
    go_ret
    refine ⟨?_, Ext.refl _⟩
    have : ts ≠ us := by rintro rfl; omega
    simp [this]

def cEq (ts us : List Tm) (b b' : Int) : Bool := decide (ts = us ∧ b = b')

theorem cEq_self (ts : List Tm) (b : Int) : cEq ts ts b b = true := by simp [cEq]

set_option maxHeartbeats 1000000 in
theorem eqConstraint_any (A A' : Option Addr) (n n' cap cap' : Nat) (ts us : List Tm) (bd bd' : Int) (w : World) (hn : n ≤ maxLen) (hn' : n' ≤ maxLen) (h : Seg w 2 A n (encT ts)) (h' : Seg w 2 A' n' (encT us)) :
    Calls Try.prog 9 #[.agg #[.slice A n cap, .int .i64 bd], .agg #[.slice A' n' cap', .int .i64 bd']] w fun e w' => e = .returned (.bool (cEq ts us bd bd')) ∧ Ext w w' := by
  by_cases h1 : ts = us
  · have hd : decide (ts = us) = true := decide_eq_true h1
    by_cases h2 : bd = bd'
    all_goals
      have hb : (bd == bd') = decide (bd = bd') := rfl
      first | rw [decide_eq_true h2] at hb | rw [decide_eq_false h2] at hb
      have H1 := Lib.hid h1
      have H2 := Lib.hid h2
      clear h1 h2
      go_enter Try.func9, Try.ntmps9
      go_wp2_with fail
      refine (eqTermS_any A A' n n' cap cap' ts us _ hn hn' ((h.alloc _).alloc _) ((h'.alloc _).alloc _)).mono ?_
      rintro e w1 ⟨rfl, hE⟩
      obtain ⟨B0, B1⟩ := Blk.of2 hE
      have c0 := B0.cell 1
      have c1 := B1.cell 1
      have hE0 := (((Ext.refl w).alloc _).alloc _).trans hE
      clear B0 B1 hE h h'
      go_wp2
      go_ret
      exact ⟨by simp [cEq, H1.out, H2.out], hE0⟩
  · have hd : decide (ts = us) = false := decide_eq_false h1
    have H1 := Lib.hid h1
    clear h1
    go_enter Try.func9, Try.ntmps9
    go_wp2_with fail
    refine (eqTermS_any A A' n n' cap cap' ts us _ hn hn' ((h.alloc _).alloc _) ((h'.alloc _).alloc _)).mono ?_
    rintro e w1 ⟨rfl, hE⟩
    have hE0 := (((Ext.refl w).alloc _).alloc _).trans hE
    clear hE h h'
    go_wp2
    go_ret
    exact ⟨by simp [cEq, H1.out], hE0⟩

end Go.Proofs.Ytbpkpcfhmglddaa
