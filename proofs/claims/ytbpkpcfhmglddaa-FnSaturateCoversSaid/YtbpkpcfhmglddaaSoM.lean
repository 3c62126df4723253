/- Worlds of a sort and of a compaction in this proof's words. No program is named. -/
import Derived.Test.YtbpkpcfhmglddaaPlCI
import Derived.Test.YtbpkpcfhmglddaaMemE
import Derived.Shelf.SlSortCmp.Kit1
import Derived.Shelf.Slices.CompactI
namespace Go.Proofs.Ytbpkpcfhmglddaa
open Go.RowKit Go.Sort

theorem kept_mapBlock (w : World) (b : Nat) (f : Array Value → Array Value) : Kept b (b + 1) w (mapBlock w b f) :=
  ⟨rfl, rfl, rfl, by simp [mapBlock], fun k _ ho => by
    have hne : ¬ b = k := by omega
    simp [mapBlock, Array.getElem?_modify, hne]⟩
theorem kept_grow {lo hi : Nat} {a w : World} (h : Kept lo hi a w) (os : Array Obj) : Kept lo hi a (grow w os) :=
  ⟨h.os, h.tape, h.output, by have := h.size; simp; omega, fun k hk ho => (heap_grow_old w os (Nat.lt_of_lt_of_le hk h.size)).trans (h.block k hk ho)⟩
theorem kept_putRow {α : Type} [Inhabited α] (enc : α → Value) (w : World) (b off q : Nat) (d : Array α) : Kept b (b + 1) w (putRow enc (Sort.ahead w q) b off d) :=
  have h := kept_mapBlock (Sort.ahead w q) b (putCells enc off d)
  ⟨h.os, h.tape, h.output, h.size, h.block⟩
theorem kept_sortWorld {α : Type} [Inhabited α] (enc : α → Value) (w : World) (b off n : Nat) (d : Array α) (os : Array Obj) : Kept b (b + 1) w (sortWorld enc w b off n d os) :=
  kept_grow (kept_putRow enc w b off n d) os

/-- a literal's kind of number -/
abbrev L12 := { l : Int // -12 ≤ l ∧ l ≤ 12 }
instance instL12 : Inhabited L12 := ⟨⟨0, by omega, by omega⟩⟩
def encL (l : L12) : Value := .int .i64 l.val
def cfL (x y : L12) : Int := absI x.val - absI y.val
theorem ltL (x y : L12) : ltOf cfL x y = decide (absI x.val < absI y.val) := by
  unfold ltOf cfL
  exact decide_eq_decide.2 (by omega)
theorem swoL : SWO (ltOf cfL) where
  irrefl x := by rw [ltL]; simp
  trans x y z h1 h2 := by rw [ltL] at *; simp at *; omega
  ntrans x y z h1 h2 := by rw [ltL] at *; simp at *; omega
def toL (l : Int) : L12 := if h : -12 ≤ l ∧ l ≤ 12 then ⟨l, h⟩ else ⟨0, by omega, by omega⟩
theorem toL_val {l : Int} (h : -12 ≤ l ∧ l ≤ 12) : (toL l).val = l := by unfold toL; rw [dif_pos h]
def toLs (zs : List Int) : Array L12 := (zs.map toL).toArray
theorem toLs_size (zs : List Int) : (toLs zs).size = zs.length := by simp [toLs]
theorem toLs_at {zs : List Int} (hz : ∀ l ∈ zs, -12 ≤ l ∧ l ≤ 12) {j : Nat} (hj : j < zs.length) : encL (toLs zs)[j]! = .int .i64 zs[j] := by
  have h1 : j < (toLs zs).size := by rw [toLs_size]; exact hj
  rw [getElem!_pos _ j h1]
  simp only [toLs, List.getElem_toArray, List.getElem_map, encL]
  rw [toL_val (hz _ (List.getElem_mem hj))]

/-- a fresh list of numbers, in block b -/
theorem row_holds {w w' : World} {b off n : Nat} {zs : List Int} (hl : zs.length = n) (hz : ∀ l ∈ zs, -12 ≤ l ∧ l ≤ 12) (hG : Got w w' 1 (some ⟨b, off, none⟩) n (encI zs)) (hn : 0 < n) : Holds encL w' b off (toLs zs) := fun j hj => by
  rw [toLs_size] at hj
  obtain ⟨b', off', e, hc⟩ := hG.seg.2 hn
  injection e with e
  injection e with e1 e2 _
  subst e1 e2
  refine ⟨?_, hG.free b off rfl j (by omega)⟩
  rw [toLs_at hz hj]
  exact hc j _ (by simp [encI, hj])

/-- the numbers behind the sort -/
def fromLs (d : Array L12) : List Int := d.toList.map (·.val)
theorem fromLs_len (d : Array L12) : (fromLs d).length = d.size := by simp [fromLs]
theorem fromLs_at (d : Array L12) {j : Nat} (hj : j < d.size) : (fromLs d).toArray[j]! = (d[j]!).val := by
  rw [getElem!_pos _ j (by simpa [fromLs] using hj), getElem!_pos _ j hj]
  simp [fromLs]
theorem sorted_of {zs : List Int} (hz : ∀ l ∈ zs, -12 ≤ l ∧ l ≤ 12) {d : Array L12} (hp : PermIn 0 (toLs zs).size (toLs zs) d) (hs : SortedIn (ltOf cfL) 0 (toLs zs).size d) :
    (fromLs d).length = zs.length ∧ (∀ l, l ∈ fromLs d ↔ l ∈ zs) ∧ ∀ i j, i < j → j < (fromLs d).length → absI (fromLs d).toArray[i]! ≤ absI (fromLs d).toArray[j]! := by
  have hsz : d.size = zs.length := hp.1.trans (toLs_size zs)
  refine ⟨by rw [fromLs_len, hsz], fun l => ?_, fun i j hij hj => ?_⟩
  · have h3 := hp.2.2
    have e1 : (d.extract 0 (toLs zs).size) = d := by rw [← hp.1]; simp
    have e2 : ((toLs zs).extract 0 (toLs zs).size) = toLs zs := by simp
    rw [e1, e2] at h3
    have h4 := (h3.map (fun x : L12 => x.val)).mem_iff (a := l)
    have e3 : (toLs zs).toList.map (fun x : L12 => x.val) = zs := by
      simp only [toLs, List.map_map]
      refine (List.map_congr_left fun x hx => ?_).trans (List.map_id zs)
      exact toL_val (hz x hx)
    rw [e3] at h4
    exact h4
  · rw [fromLs_len] at hj
    rw [fromLs_at d (by omega), fromLs_at d hj]
    have := hs i j (Nat.zero_le _) hij (by rw [hp.1] at hj; exact hj)
    rw [ltL] at this
    simp at this
    omega
/-- the cells behind the sort -/
theorem holds_seg {w' : World} {b off : Nat} {d : Array L12} (h : Holds encL w' b off d) : Holds (Value.int .i64) w' b off (fromLs d).toArray := fun j hj => by
  have hj' : j < d.size := by simpa [fromLs] using hj
  rw [fromLs_at d hj']
  exact h j hj'
theorem seg_of_holds {w' : World} {b off n : Nat} {ys : List Int} {d : Array Int} (h : Holds (Value.int .i64) w' b off d) (hle : ys.length ≤ d.size) (he : ∀ j, j < ys.length → d[j]! = ys[j]!) (hn : ys.length = n) :
    Seg w' 1 (some ⟨b, off, none⟩) n (encI ys) := by
  refine ⟨by simp [encI, hn], fun _ => ⟨b, off, rfl, fun j u hu => ?_⟩⟩
  have hj : j < ys.length := by have := (List.getElem?_eq_some_iff.1 hu).1; simpa [encI] using this
  have e : u = .int .i64 ys[j] := by simp [encI, hj] at hu; exact hu.symm
  rw [e, (h j (by omega)).1, he j hj, getElem!_pos ys j hj]
end Go.Proofs.Ytbpkpcfhmglddaa
