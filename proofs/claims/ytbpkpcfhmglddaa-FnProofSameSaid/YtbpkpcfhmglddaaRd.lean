/- The random source l17Rd: what is kept of it, and the contracts of l17Open, pick, num: SOME value that fits. -/
import Derived.Test.YtbpkpcfhmglddaaMemE
import Derived.Deep.QuietTactic
import Derived.IntWalk
namespace Go.Proofs.Ytbpkpcfhmglddaa
open Go.RowKit

/-- bytes as cells -/
def encY (bs : List Int) : List Value := bs.map (Value.int .u8)
def bytesB (bs : List Int) : Prop := ∀ b ∈ bs, 0 ≤ b ∧ b ≤ 255
/-- block g is a random source whose place is at most L -/
def Rd (w : World) (g L : Nat) : Prop :=
  ∃ (A : Option Addr) (n c p : Nat) (bs : List Int), Blk w g 70 #[.slice A n c, .int .i64 p] ∧ p ≤ L ∧ n ≤ 2000 ∧ Seg w 1 A n (encY bs) ∧ Lies 0 g A n ∧ bytesB bs

section
variable {w w' : World} {g L : Nat}
theorem Rd.lt (h : Rd w g L) : g < w.heap.size := by obtain ⟨A, n, c, p, bs, B, _⟩ := h; exact B.lt
theorem Rd.mono {L' : Nat} (h : Rd w g L) (hl : L ≤ L') : Rd w g L' := by
  obtain ⟨A, n, c, p, bs, B, hp, r⟩ := h
  exact ⟨A, n, c, p, bs, B, Nat.le_trans hp hl, r⟩
theorem Rd.kept {lo hi : Nat} (h : Rd w g L) (k : Kept lo hi w w') (hg : g < lo) : Rd w' g L := by
  obtain ⟨A, n, c, p, bs, B, hp, hn, hs, hl, hb⟩ := h
  exact ⟨A, n, c, p, bs, B.kept k (.inl hg), hp, hn, hs.kept hl k (.inl (by omega)), hl, hb⟩
theorem Rd.ext (h : Rd w g L) (k : Ext w w') : Rd w' g L := by
  obtain ⟨A, n, c, p, bs, B, hp, hn, hs, hl, hb⟩ := h
  exact ⟨A, n, c, p, bs, B.ext k, hp, hn, hs.ext k, hl, hb⟩
theorem Rd.alloc (h : Rd w g L) (o : Obj) : Rd (w.alloc o) g L := h.ext ((Ext.refl _).alloc _)
theorem Rd.drew (h : Rd w g L) : Rd w.drew g L := h.ext ((Ext.refl _).drew)
theorem Rd.far (h : Rd w g L) {p : Addr} (hp : g < p.block) (u : Value) : Rd (w.setCell p u) g L :=
  h.kept ((Kept.refl (g + 1) (p.block + 1) w).setIn (by omega) u) (by omega)
end

theorem Seg.byte {w : World} {n k : Nat} {A : Option Addr} {bs : List Int} (h : Seg w 1 A n (encY bs)) (hk : k < n) :
    ∃ b off z, A = some ⟨b, off, none⟩ ∧ bs[k]? = some z ∧ w.cell? ⟨b, off + k, none⟩ = some (.int .u8 z) := by
  obtain ⟨b, off, u, e, hx, hc⟩ := h.at1 hk
  obtain ⟨z, hz, rfl⟩ : ∃ z, bs[k]? = some z ∧ Value.int .u8 z = u := by simpa [encY] using hx
  exact ⟨b, off, z, e, hz, hc⟩

theorem xor_nat (a b : Nat) (ha : a < 9223372036854775808) (hb : b < 9223372036854775808) : bits .xor .i64 (a : Int) (b : Int) = ((a ^^^ b : Nat) : Int) := by
  have hx : a ^^^ b < 2 ^ 63 := Nat.xor_lt_two_pow (by omega) (by omega)
  have h1 : (BitVec.ofInt 64 (a : Int)).toNat = a := by
    rw [BitVec.ofInt_natCast, BitVec.toNat_ofNat]; exact Nat.mod_eq_of_lt (by omega)
  have h2 : (BitVec.ofInt 64 (b : Int)).toNat = b := by
    rw [BitVec.ofInt_natCast, BitVec.toNat_ofNat]; exact Nat.mod_eq_of_lt (by omega)
  show IntKind.i64.wrap ((BitVec.ofInt 64 (a : Int) ^^^ BitVec.ofInt 64 (b : Int)).toNat : Int) = _
  rw [BitVec.toNat_xor, h1, h2]
  exact IntWalk.i64_in _ (by omega)
theorem xor_pos {x y : Int} (h0 : 0 ≤ x) (h1 : x < 9223372036854775808) (h2 : 0 ≤ y) (h3 : y < 9223372036854775808) : ∃ z, bits .xor .i64 x y = z ∧ 0 ≤ z ∧ z < 9223372036854775808 := by
  obtain ⟨a, rfl⟩ := Int.eq_ofNat_of_zero_le h0
  obtain ⟨b, rfl⟩ := Int.eq_ofNat_of_zero_le h2
  have hx : a ^^^ b < 2 ^ 63 := Nat.xor_lt_two_pow (by omega) (by omega)
  exact ⟨_, xor_nat a b (by omega) (by omega), Int.natCast_nonneg _, by omega⟩

/-- an integer that P says something of; the source went on -/
def RdI (P : Int → Prop) (g L : Nat) (w : World) (e : Ending) (w' : World) : Prop := ∃ i : Int, e = .returned (.int .i64 i) ∧ P i ∧ Kept g (g + 1) w w' ∧ Rd w' g L
/-- of pick(n) -/
def PickB (n i : Int) : Prop := 0 ≤ i ∧ (1 ≤ n → i < n)

theorem rem_nat (a b : Nat) : ((a : Int).tmod (b : Int)) = ((a % b : Nat) : Int) := by
  rw [Int.tmod_eq_emod_of_nonneg (Int.natCast_nonneg _)]; exact (Int.natCast_emod a b).symm
theorem quo_nat (a b : Nat) : ((a : Int).tdiv (b : Int)) = ((a / b : Nat) : Int) := by
  rw [Int.tdiv_eq_ediv_of_nonneg (Int.natCast_nonneg _)]; exact (Int.natCast_ediv a b).symm

set_option maxRecDepth 100000 in
set_option maxHeartbeats 4000000 in
theorem pick_any (g L : Nat) (n : Int) (w : World) (h : Rd w g L) (hL : L ≤ 1000000000) (hn : n ≤ 9223372036854775807) :
    Calls Try.prog 40 #[.pointer (some ⟨g, 0, none⟩), .int .i64 n] w (RdI (PickB n) g (L + 1) w) := by
  obtain ⟨A, m, c, p, bs, B, hp, hm, hs, hl, hb⟩ := h
  have K : Hid (Kept g (g + 1) w (w.setCell ⟨g, 1, none⟩ (.int .i64 ((p : Int) + 1)))) := (Kept.refl _ _ w).setIn (by simp) _
  have R : Hid (Rd (w.setCell ⟨g, 1, none⟩ (.int .i64 ((p : Int) + 1))) g (L + 1)) := ⟨A, m, c, p + 1, bs, B.set_ 1 _, by omega, hm, hs.kept hl ((Kept.refl g (g + 1) w).setIn (by simp) _) (.inl (Nat.le_refl _)), hl, hb⟩
  have b0 := B.cell 0
  have b1 := B.cell 1
  have f1 := B.frozen 1
  have hgw := B.lt
  clear B
  by_cases hn1 : n < 1
  · go_enter Try.func40, Try.ntmps40
    go_wp2
    go_ret
    exact ⟨0, rfl, ⟨by omega, fun h => absurd h (by omega)⟩, K.out, R.out⟩
  · by_cases hm0 : m = 0
    · subst hm0
      go_enter Try.func40, Try.ntmps40
      go_wp2
      go_ret
      exact ⟨0, rfl, ⟨by omega, fun h => by omega⟩, K.out, R.out⟩
    · have hmb : ((m : Int) == 0) = false := by simp; omega
      by_cases hpm : p < m
      · obtain ⟨b, off, z, rfl, hx, c1⟩ := hs.byte hpm
        have hz := hb z (List.mem_of_getElem? hx)
        have hbg : b < g := (hl (by omega) _ rfl).2
        have hne : Hid ((z.tmod n) = z % n) := Int.tmod_eq_emod_of_nonneg hz.1
        have i0 : 0 ≤ z % n := Int.emod_nonneg _ (by omega)
        have i1 : z % n < n := Int.emod_lt_of_pos _ (by omega)
        clear hx
        go_enter Try.func40, Try.ntmps40
        go_wp2
        go_ret
        exact ⟨z % n, rfl, ⟨i0, fun _ => i1⟩, K.out, R.out⟩
      · obtain ⟨r1, hr1, k1⟩ : ∃ r, p % m = r ∧ r < m := ⟨_, rfl, Nat.mod_lt _ (by omega)⟩
        obtain ⟨r2, hr2, k2⟩ : ∃ r, (p * 7 + 3) % m = r ∧ r < m := ⟨_, rfl, Nat.mod_lt _ (by omega)⟩
        obtain ⟨d, hd, k3⟩ : ∃ d, p / m = d ∧ d ≤ p := ⟨_, rfl, Nat.div_le_self _ _⟩
        obtain ⟨b, off, z, rfl, hx, c1⟩ := hs.byte k1
        obtain ⟨b', off', z', e', hx', c1'⟩ := hs.byte k2
        injection e' with e'; injection e' with e1 e2
        subst e1; subst e2
        have hz := hb z (List.mem_of_getElem? hx)
        have hz' := hb z' (List.mem_of_getElem? hx')
        have hbg : b < g := (hl (by omega) _ rfl).2
        have E3 : Hid (((p : Int) % (m : Int)) = (r1 : Int)) := by rw [← hr1]; rfl
        have E4 : Hid ((((p : Int) * 7 + 3) % (m : Int)) = (r2 : Int)) := by rw [← hr2]; rfl
        have E10 : Hid (((p : Int) / (m : Int)) = (d : Int)) := by rw [← hd]; rfl
        clear hx hx' hr1 hr2 hd
        go_enter Try.func40, Try.ntmps40
        go_wp2_with fail
        have p0 : (0 : Int) ≤ (r1 : Int) := Int.natCast_nonneg _
        have p1 : (r1 : Int) < (m : Int) := by omega
        have p2 : (0 : Int) ≤ (r2 : Int) := Int.natCast_nonneg _
        have p3 : (r2 : Int) < (m : Int) := by omega
        have e3 := E3.out
        have e4 := E4.out
        have e10 := E10.out
        go_quiet (fail)
        clear e3 e4 e10
        have hx0 : 0 ≤ z * 131 + z' * 1117 + (p : Int) * 29 + (d : Int) * 53 := by omega
        have hx1 : z * 131 + z' * 1117 + (p : Int) * 29 + (d : Int) * 53 ≤ 1000000000000 := by omega
        generalize z * 131 + z' * 1117 + (p : Int) * 29 + (d : Int) * 53 = x at hx0 hx1 ⊢
        obtain ⟨y, hy, hy0, hy1⟩ := xor_pos (x := x) (y := x / 64) hx0 (by omega) (by omega) (by omega)
        have i0 : 0 ≤ y % n := Int.emod_nonneg _ (by omega)
        have i1 : y % n < n := Int.emod_lt_of_pos _ (by omega)
        go_wp2
        go_ret
        exact ⟨y % n, rfl, ⟨i0, fun _ => i1⟩, K.out.drewN _, R.out.ext ((Ext.refl _).drewN _)⟩

theorem RdI.mono {P Q : Int → Prop} {g L L' : Nat} {w : World} {e : Ending} {w' : World} (h : RdI P g L w e w') (hp : ∀ i, P i → Q i) (hl : L ≤ L') : RdI Q g L' w e w' := by
  obtain ⟨i, he, hi, k, r⟩ := h
  exact ⟨i, he, hp i hi, k, r.mono hl⟩
theorem RdI.from_ {P : Int → Prop} {g L : Nat} {w0 w : World} {e : Ending} {w' : World} (h : RdI P g L w e w') (hE : Ext w0 w) : RdI P g L w0 e w' := by
  obtain ⟨i, he, hi, k, r⟩ := h
  exact ⟨i, he, hi, (hE.kept _ _).trans k, r⟩

set_option maxRecDepth 100000 in
set_option maxHeartbeats 1000000 in
theorem num_any (g L : Nat) (A : Option Addr) (n c : Nat) (zs : List Int) (w : World) (h : Rd w g L) (hL : L ≤ 1000000000) (hs : Seg w 1 A n (encI zs)) (h0 : 0 < n) (h1 : n ≤ 1000) (hl : Lies (g + 1) w.heap.size A n) :
    Calls Try.prog 66 #[.pointer (some ⟨g, 0, none⟩), .slice A n c] w (RdI (fun i => i ∈ zs) g (L + 1) w) := by
  have H0 := Lib.hid hs
  have HL := Lib.hid hl
  clear hs hl
  go_enter Try.func66, Try.ntmps66
  go_wp2_with fail
  refine (pick_any g L n _ h hL (by omega)).mono ?_
  rintro e w1 ⟨i, rfl, ⟨hi0, hi1⟩, hK, hR⟩
  obtain ⟨k, rfl⟩ := Int.eq_ofNat_of_zero_le hi0
  have hk : k < n := by have := hi1 (by omega); omega
  obtain ⟨b, off, z, rfl, hx, c1⟩ := (H0.out.kept HL.out hK (.inr (Nat.le_refl _))).int hk
  have HX := Lib.hid hx
  have HK := Lib.hid hK
  have HR := Lib.hid hR
  clear hx hK hR h hi0 hi1
  go_wp2
  go_ret
  exact ⟨z, rfl, List.mem_of_getElem? HX.out, HK.out, HR.out⟩

theorem Seg.lit (w : World) (t : TypeId) (cs : Array Value) (n : Nat) (hn : cs.size = n) : Seg (w.alloc (.cells cs t)) 1 (some ⟨w.heap.size, 0, none⟩) n cs.toList :=
  ⟨by simpa using hn, fun _ => ⟨w.heap.size, 0, rfl, fun j u hu => by
    rw [Nat.zero_add, (Blk.new w t cs).cell]; simpa using hu⟩⟩

/-- 'r.num([]int{..})' -/
theorem num_lit (zs : List Int) (g L n k : Nat) (cs : Array Value) (t : TypeId) (w : World) (hk : w.heap.size = k) (hc : cs.toList = encI zs) (hn : cs.size = n) (h0 : 0 < n) (h1 : n ≤ 1000) (h : Rd w g L) (hL : L ≤ 1000000000) :
    Calls Try.prog 66 #[.pointer (some ⟨g, 0, none⟩), .slice (some ⟨k, 0, none⟩) n n] (w.alloc (.cells cs t)) (RdI (fun i => i ∈ zs) g (L + 1) w) := by
  subst hk
  have hs := Seg.lit w t cs n hn
  rw [hc] at hs
  have hl : Lies (g + 1) (w.alloc (.cells cs t)).heap.size (some ⟨w.heap.size, 0, none⟩) n := fun _ ad e => by
    injection e with e; subst e
    have := h.lt
    simp; omega
  exact (num_any g L _ n n zs _ (h.alloc _) hL hs h0 h1 hl).mono fun _ _ r => r.from_ ((Ext.refl _).alloc _)

/-- .. inside a region that draws its order -/
theorem num_litD (zs : List Int) (g L n k : Nat) (cs : Array Value) (t : TypeId) (w : World) (hk : w.heap.size = k) (hc : cs.toList = encI zs) (hn : cs.size = n) (h0 : 0 < n) (h1 : n ≤ 1000) (h : Rd w g L) (hL : L ≤ 1000000000) :
    Calls Try.prog 66 #[.pointer (some ⟨g, 0, none⟩), .slice (some ⟨k, 0, none⟩) n n] (w.alloc (.cells cs t)).drew (RdI (fun i => i ∈ zs) g (L + 1) w) := by
  subst hk
  have hs := (Seg.lit w t cs n hn).ext (Ext.refl _).drew
  rw [hc] at hs
  have hl : Lies (g + 1) (w.alloc (.cells cs t)).drew.heap.size (some ⟨w.heap.size, 0, none⟩) n := fun _ ad e => by
    injection e with e; subst e
    have := h.lt
    show g + 1 ≤ w.heap.size ∧ w.heap.size < (w.alloc (.cells cs t)).heap.size
    simp; omega
  exact (num_any g L _ n n zs _ (h.alloc _).drew hL hs h0 h1 hl).mono fun _ _ r => r.from_ ((Ext.refl _).alloc _).drew

set_option maxHeartbeats 1000000 in
theorem open_any (A : Option Addr) (n c : Nat) (bs : List Int) (w : World) (hn : n ≤ maxLen) (hc : n ≤ c) (hs : Seg w 1 A n (encY bs)) (hb : bytesB bs) :
    Calls Try.prog 38 #[.slice A n c] w fun e w' => e = .returned (.pointer (some ⟨w.heap.size, 0, none⟩)) ∧ Ext w w' ∧ Rd w' w.heap.size 0 := by
  unfold maxLen at hn
  have hold := hs.old
  by_cases h2 : 2000 < n
  · obtain ⟨b, off, rfl, hcc⟩ := hs.2 (by omega)
    have hs2 : Seg w 1 (some ⟨b, off, none⟩) 2000 (encY (bs.take 2000)) := ⟨by have := hs.1; simp [encY] at this ⊢; omega, fun _ => ⟨b, off, rfl, fun j u hu => hcc j u (by
      have e : encY (bs.take 2000) = (encY bs).take 2000 := by simp [encY]
      rw [e] at hu
      have hj : j < 2000 := by have := (List.getElem?_eq_some_iff.1 hu).1; simp at this; omega
      rw [List.getElem?_take, if_pos hj] at hu
      exact hu)⟩⟩
    have R : Hid (Rd (w.alloc (.cells #[.slice (some ⟨b, off, none⟩) 2000 c, .int .i64 0] 70)) w.heap.size 0) := ⟨_, 2000, c, 0, bs.take 2000, Blk.new _ _ _, by omega, by omega, hs2.alloc _, fun h ad e => hold (by omega) ad e, fun x hx => hb x (List.mem_of_mem_take hx)⟩
    clear hs2 hcc hs hold hb
    go_enter Try.func38, Try.ntmps38
    go_wp2
    go_ret
    exact ⟨rfl, (Ext.refl _).alloc _, R.out⟩
  · have R : Hid (Rd (w.alloc (.cells #[.slice A n c, .int .i64 0] 70)) w.heap.size 0) := ⟨A, n, c, 0, bs, Blk.new _ _ _, by omega, by omega, hs.alloc _, fun h ad e => hold h ad e, hb⟩
    clear hs hold hb
    go_enter Try.func38, Try.ntmps38
    go_wp2
    go_ret
    exact ⟨rfl, (Ext.refl _).alloc _, R.out⟩
end Go.Proofs.Ytbpkpcfhmglddaa
