/- The law's own copies and comparisons of slices of integers and of bools: toIntS, toBoolS, eqIntS, eqBoolS. -/
import Derived.Test.YtbpkpcfhmglddaaMemD
namespace Go.Proofs.Ytbpkpcfhmglddaa
open Go.RowKit

theorem dec_drop1 {α : Type} [DecidableEq α] (xs ys : List α) (k : Nat) (x y : α) (hx : xs[k]? = some x) (hy : ys[k]? = some y) (h : decide (xs = ys) = decide (xs.drop k = ys.drop k)) :
    (x = y → decide (xs = ys) = decide (xs.drop (k + 1) = ys.drop (k + 1))) ∧ (x ≠ y → decide (xs = ys) = false) := by
  rw [drop_of_get xs k x hx, drop_of_get ys k y hy] at h
  constructor
  · rintro rfl; rw [h]; simp
  · intro hne; rw [h]; simp [hne]

def iEq (xs ys : List Int) : Bool := decide (xs = ys)

theorem iEq_self (xs : List Int) : iEq xs xs = true := by simp [iEq]

theorem Try.infoInt : (Try.prog.info? 3).map (fun i => (i.zero, i.size, i.bytes)) = some (some (.int .i64 0), 1, 8) := by kernel_rfl

theorem encI_len (xs : List Int) : (encI xs).length = xs.length := by simp [encI]

theorem encI_snoc (xs : List Int) (z : Int) : encI (xs ++ [z]) = encI xs ++ [.int .i64 z] := by simp [encI]

def RetInt (xs : List Int) (w : World) (e : Ending) (w' : World) : Prop :=
  ∃ A n cap, e = .returned (.slice A n cap) ∧ xs.length = n ∧ Got w w' 1 A n (encI xs) ∧ Ext w w'

set_option maxHeartbeats 1000000 in
theorem toIntS_any (A : Option Addr) (n cap : Nat) (ts : List Int) (w : World) (hn : n ≤ 1048576) (h : Seg w 1 A n (encI ts)) :
    Calls Try.prog 7 #[.slice A n cap] w fun e w' => RetInt ts w e w' := by
  obtain ⟨i0, hi, hz0, hz1, hz2⟩ := info_parts Try.infoInt
  have hmk := run_make (P := Try.prog) w 22 3 i0 _ Try.underlying22 hi hz0 .i64 .i64 (n : Int) (n : Int) (by omega) (by omega) (by rw [hz2]; omega) (by omega)
  rw [hz1, toNat_cast] at hmk
  have hsz := size_madeCells (Value.cells (.int .i64 0)) (n * 1)
  generalize madeCells (Value.cells (.int .i64 0)) (n * 1) = made at hmk hsz
  have hl := h.lenI
  have HR0 := Row.new w 3 made
  rw [hsz] at HR0
  clear hi hz0 hz1 hz2 hsz
  have HL := Lib.hid hl; clear hl
  go_enter Try.func7, Try.ntmps7
  go_wp2
  clear hmk
  go_loopw [4] (fun i wr => ∃ k : Nat, k ≤ n ∧ i = .int .i64 k ∧ Ext w wr ∧ Hid (∃ cur, Row wr w.heap.size 3 (n * 1) (encI (ts.take k)) cur)) (fun i _ => n - (intOf i).toNat)
  case atStart => exact ⟨0, Nat.zero_le _, rfl, (Ext.refl _).alloc _, ⟨made, HR0⟩⟩
  case round =>
    obtain ⟨k, hk, rfl, hE, hR⟩ := hrel
    by_cases hlt : k < n
    · obtain ⟨b, off, z, rfl, hx, c1⟩ := (h.ext hE).int hlt
      have HX := Lib.hid hx
      obtain ⟨cur, R1⟩ := hR.out
      have hle : (encI (ts.take k)).length = k := by rw [encI_len, List.length_take, HL.out]; omega
      obtain ⟨o1, d1⟩ := R1.cell (i := k) (by omega)
      have f1 := R1.frozen k
      have R2 := R1.push (i := k) (by omega) (by omega) (.int .i64 z)
      have HR2 := Lib.hid R2
      clear hx hR h HR0 R1 R2 hle
      go_wp2
      go_roundw
      case rel =>
        refine ⟨k + 1, by omega, by go_num, hE.setNew (Nat.le_refl _) _, ?_⟩
        rw [take_of_get _ _ _ HX.out, encI_snoc]
        exact ⟨_, HR2.out⟩
      case measure => simp [intOf]; omega
    · obtain rfl : k = n := by omega
      have HS := Lib.hid hR.out
      clear hR h HR0
      go_wp2
      go_ret
      obtain ⟨cur, R⟩ := HS.out
      rw [List.take_of_length_le (by rw [HL.out]; omega)] at R
      exact ⟨_, _, _, rfl, HL.out, R.got (by rw [encI_len, HL.out]; omega) (Nat.le_refl _), hE⟩


set_option maxHeartbeats 1000000 in
theorem eqIntS_any (A : Option Addr) (n cap : Nat) (ts : List Int) (A' : Option Addr) (n' cap' : Nat) (us : List Int) (w : World) (hn : n ≤ maxLen) (h : Seg w 1 A n (encI ts)) (hn' : n' ≤ maxLen) (h' : Seg w 1 A' n' (encI us)) :
    Calls Try.prog 10 #[.slice A n cap, .slice A' n' cap'] w fun e w' => e = .returned (.bool (iEq ts us)) ∧ Ext w w' := by
  have hl := h.lenI
  have hl' := h'.lenI
  unfold maxLen at hn hn'
  by_cases hnn : n = n'
  · subst hnn
    have HL := Lib.hid hl; clear hl
    have HL' := Lib.hid hl'; clear hl'
    go_enter Try.func10, Try.ntmps10
    go_wp2
    go_loopw [5] (fun i wr => ∃ k : Nat, k ≤ n ∧ i = .int .i64 k ∧ Ext w wr ∧ Hid (decide (ts = us) = decide (ts.drop k = us.drop k))) (fun i _ => n - (intOf i).toNat)
    case atStart => exact ⟨0, Nat.zero_le _, rfl, Ext.refl _, rfl⟩
    case round =>
      obtain ⟨k, hk, rfl, hE, hD⟩ := hrel
      by_cases hlt : k < n
      · obtain ⟨b, off, c, hA, hx, c1⟩ := (h.ext hE).int hlt
        obtain ⟨b', off', c', hA', hx', c1'⟩ := (h'.ext hE).int hlt
        subst hA; subst hA'
        obtain ⟨D1, D2⟩ := dec_drop1 ts us k c c' hx hx' hD.out
        have HD1 := Lib.hid D1
        have HD2 := Lib.hid D2
        clear hx hx' hD h h' D1 D2
        by_cases hcc : c = c'
        · have D := Lib.hid (HD1.out hcc)
          subst hcc
          clear HD1 HD2
          go_wp2_with fail
          go_quiet (fail)
          go_wp2
          go_roundw
          case rel => exact ⟨k + 1, by omega, by go_num, hE.drewN _, D⟩
          case measure => simp [intOf]; omega
        · have D := Lib.hid (HD2.out hcc)
          have hdec : (c == c') = false := by simpa using hcc
          clear HD1 HD2 hcc
          go_wp2_with fail
          go_quiet (fail)
          go_wp2
          go_ret
          exact ⟨ret_b D.out.symm, hE.drewN _⟩
      · go_wp2
        go_ret
        obtain rfl : k = n := by omega
        refine ⟨ret_b ?_, hE⟩
        unfold iEq
        rw [hD.out]
        have a1 := HL.out
        have a2 := HL'.out
        rw [List.drop_of_length_le (by omega), List.drop_of_length_le (by omega)]
        rfl
  · have hb : ((n : Int) == (n' : Int)) = false := by simp; omega
    go_enter Try.func10, Try.ntmps10
    go_wp2
    go_ret
    have : ts ≠ us := by rintro rfl; omega
    exact ⟨ret_b (decide_eq_false this).symm, Ext.refl _⟩

def bEq (xs ys : List Bool) : Bool := decide (xs = ys)

theorem bEq_self (xs : List Bool) : bEq xs xs = true := by simp [bEq]

theorem Try.infoBool : (Try.prog.info? 4).map (fun i => (i.zero, i.size, i.bytes)) = some (some (.bool false), 1, 1) := by kernel_rfl

theorem encB_len (xs : List Bool) : (encB xs).length = xs.length := by simp [encB]

theorem encB_snoc (xs : List Bool) (z : Bool) : encB (xs ++ [z]) = encB xs ++ [.bool z] := by simp [encB]

def RetBool (xs : List Bool) (w : World) (e : Ending) (w' : World) : Prop :=
  ∃ A n cap, e = .returned (.slice A n cap) ∧ xs.length = n ∧ Got w w' 1 A n (encB xs) ∧ Ext w w'



end Go.Proofs.Ytbpkpcfhmglddaa
