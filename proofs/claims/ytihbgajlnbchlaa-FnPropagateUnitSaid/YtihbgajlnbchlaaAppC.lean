/- append of two lists of constraints; cpValues: SOME twelve values. -/
import Derived.Test.YtihbgajlnbchlaaRdL
import Derived.Test.YtihbgajlnbchlaaApp
import Derived.BigFrame
namespace Go.Proofs.Ytihbgajlnbchlaa
open Go.RowKit

theorem segC_app {w : World} {A : Option Addr} {n : Nat} {hs hs' : List Hd} {cs cs' : List Cn} (hl : hs.length = cs.length) (hl' : hs'.length = cs'.length) (hS : Seg w 2 A n (encH hs cs ++ encH hs' cs'))
    (h1 : ∀ (i : Nat) (h : Hd) (c : Cn), hs[i]? = some h → cs[i]? = some c → h.2.1 ≤ maxLen ∧ Seg w 2 h.1 h.2.1 (encT c.1)) (h2 : ∀ (i : Nat) (h : Hd) (c : Cn), hs'[i]? = some h → cs'[i]? = some c → h.2.1 ≤ maxLen ∧ Seg w 2 h.1 h.2.1 (encT c.1)) :
    SegC w A n (cs ++ cs') := by
  refine ⟨hs ++ hs', by simp [hl, hl'], by rw [encH_append hs cs _ _ hl]; exact hS, fun i x c e1 e2 => ?_⟩
  rcases Nat.lt_or_ge i hs.length with hlt | hge
  · rw [List.getElem?_append_left hlt] at e1
    rw [List.getElem?_append_left (by omega)] at e2
    exact h1 i x c e1 e2
  · rw [List.getElem?_append_right hge] at e1
    rw [List.getElem?_append_right (by omega), ← hl] at e2
    exact h2 _ x c e1 e2

/-- .. of an operation that has a guard -/
theorem wpList_append_segW {P : Program} (w : World) {ops : Array Oper} {rest : List Oper} {o : Oper} {a : Act} {Q : Exit → Act → World → Prop} (hgd : Region.wanted o (yielded ops a.tmps) = true) (s x : Operand) (t : TypeId)
    (ho : o.op = .call { callee := .builtin .append, args := #[s, x], argTypes := #[t, t] })
    (base : Nat) (e : TypeId) (i : TypeInfo) (z : Value) (size bytes : Nat) (ht : P.underlying t = some (.slice e)) (hi : P.info? e = some i) (hz : i.zero = some z)
    (hsize : i.size = size) (hby : i.bytes = bytes) (hzs : z.cells.size = size) (hsz : 0 < size)
    (v : Value) (n : Nat) (xs : List Value) (hs : a.eval s = v) (hown : w.ownsRow base e size v n xs)
    (A : Option Addr) (m c : Nat) (news : List Value) (hx : a.eval x = .slice A m c) (hseg : Seg w size A m news) (h1 : ∀ u ∈ news, u.oneCell' = true)
    (h63 : n + m ≤ maxLen) (hbytes : (n + m) * bytes ≤ 140737488355328) (hbase : base ≤ w.heap.size)
    (h : ∀ A' cap w', w'.ownsRow base e size (.slice A' (n + m) cap) (n + m) (xs ++ news) → w.grownBy w' v.ownBlock → wpList P ops Q rest (a.put o.dst (.slice A' (n + m) cap)) w') : wpList P ops Q (o :: rest) a w :=
  BigFrame.wpList_want hgd fun _ hK => wp_append_seg w s x t ho base e i z size bytes ht hi hz hsize hby hzs hsz v n xs hs hown A m c news hx hseg h1 h63 hbytes hbase fun A' cap w' h2 h3 => hK _ _ (h A' cap w' h2 h3)

/-- SOME twelve values -/
def RetV12 (w : World) (e : Ending) (w' : World) : Prop :=
  ∃ A c vs, e = .returned (.slice A 12 c) ∧ vs.length = 12 ∧ Got w w' 1 A 12 (encB vs) ∧ Ext w w'
theorem Try.infoBoV : (Try.prog.info? 4).map (fun i => (i.zero, i.size, i.bytes)) = some (some (.bool false), 1, 1) := by kernel_rfl
set_option maxRecDepth 100000 in
set_option maxHeartbeats 2000000 in
theorem cpV_any (z : Int) (w : World) (hz : 0 ≤ z ∧ z ≤ 4096) :
    Calls Try.prog 44 #[.int .i64 z] w (RetV12 w) := by
  obtain ⟨i0, hi, hz0, hz1, hz2⟩ := info_parts Try.infoBoV
  have HI := Lib.hid hi
  have HZ0 := Lib.hid hz0
  have HZ1 := Lib.hid hz1
  have HZ2 := Lib.hid hz2
  clear hi hz0 hz1 hz2
  go_enter Try.func44, Try.ntmps44
  go_wp2_with fail
  go_loopw [0, 3, 4] (fun z0 s i wr => ∃ (k : Nat) (z : Int) (vs : List Bool), k ≤ 12 ∧ z0 = .int .i64 z ∧ 0 ≤ z ∧ z ≤ 4096 ∧ i = .int .i64 k ∧ vs.length = k ∧ Ext w wr ∧ Hid (wr.ownsRow w.heap.size 4 1 s k (encB vs))) (fun _ _ i _ => 12 - (intOf i).toNat)
  case atStart => exact ⟨0, z, [], by omega, rfl, hz.1, hz.2, rfl, rfl, (Ext.refl _).alloc _, own_empty w w.heap.size 4 1 (Nat.le_refl _)⟩
  case round =>
    obtain ⟨k, z, vs, hk, rfl, hz0, hz1, rfl, hl, hE, hown⟩ := hrel
    have HL := Lib.hid hl
    clear hl
    by_cases hlt : k < 12
    · obtain ⟨b, hb⟩ : ∃ b, (z % 2 == 1) = b := ⟨_, rfl⟩
      obtain ⟨y, hy⟩ : ∃ y, z / 2 = y := ⟨_, rfl⟩
      have hy0 : 0 ≤ y ∧ y ≤ 4096 := by omega
      go_wp2_with (first
        | (at_builtin
           refine wpList_append_own _ rfl _ _ 29 rfl w.heap.size 4 i0 _ 1 1 Try.underlying29 HI.out HZ0.out HZ1.out HZ2.out rfl (by omega) _ k _ rfl (hown.out.alloc _) ⟨wr.heap.size, 0, none⟩ 1 1 [.bool b] rfl rfl (World.news_of_block (cs := #[.bool b]) (t := 4) (fr := (0, 0)) (heap_alloc_new wr _)) ?_ ?_ ?_ ?_ ?_
           (intro u hu; simp at hu; subst hu; rfl)
           (unfold maxLen; omega)
           omega
           (have := hE.size; simp; omega)
           (intro v1 w5 hown5 hg5 _)))
      go_roundw
      case rel =>
        have EG := own_ext (hE.alloc (.cells #[.bool b] 4)) (hown.out.alloc (.cells #[.bool b] 4)) (Nat.le_refl _) hg5
        refine ⟨k + 1, y, vs ++ [b], by omega, by rw [← hy], hy0.1, hy0.2, by go_num, by rw [List.length_append, HL.out]; rfl, EG, ?_⟩
        have e : encB (vs ++ [b]) = encB vs ++ [.bool b] := by simp [encB]
        rw [e]; exact hown5
      case measure => simp [intOf]; omega
    · obtain rfl : k = 12 := by omega
      obtain ⟨A1, c1, rfl⟩ := own_slice hown.out
      go_wp2
      go_ret
      exact ⟨A1, c1, vs, rfl, HL.out, own_got hown.out (Nat.le_refl _), hE⟩
end Go.Proofs.Ytihbgajlnbchlaa
