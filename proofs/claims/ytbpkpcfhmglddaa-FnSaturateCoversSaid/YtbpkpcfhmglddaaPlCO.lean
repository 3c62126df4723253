/- Plain: the clause of a list of literals. -/
import Derived.Test.YtbpkpcfhmglddaaCV
namespace Go.Proofs.Ytbpkpcfhmglddaa

/-- all are literals, and no variable occurs with both signs -/
def coOk (zs : List Int) : Bool := zs.all fun l => litB l && !zs.contains (-l)
/-- place v: the literal of variable v that occurs, 0 for none -/
def seenL (zs : List Int) : List Int := zs.foldl (fun s l => s.set (absI l).toNat l) (List.replicate 13 0)
theorem seenL_snoc (zs : List Int) (l : Int) : seenL (zs ++ [l]) = (seenL zs).set (absI l).toNat l := by simp [seenL]
theorem seenL_len (zs : List Int) : (seenL zs).length = 13 := by
  have key : ∀ (zs : List Int) (s : List Int), (zs.foldl (fun s l => s.set (absI l).toNat l) s).length = s.length := by
    intro zs
    induction zs with
    | nil => intro s; rfl
    | cons z zs ih => intro s; rw [List.foldl_cons, ih, List.length_set]
  rw [seenL, key]; simp
/-- what lies at place v -/
theorem seenL_atN : ∀ (n : Nat) (zs : List Int), zs.length = n → (∀ l ∈ zs, litB l = true) → ∀ v : Nat, v < 13 → ∃ x, (seenL zs)[v]? = some x ∧ (x = 0 ∧ (∀ l ∈ zs, absI l ≠ v) ∨ x ∈ zs ∧ absI x = v) := by
  intro n
  induction n with
  | zero =>
    intro zs hn _ v hv
    rw [List.length_eq_zero_iff] at hn
    subst hn
    exact ⟨0, by rw [seenL, List.foldl_nil, List.getElem?_replicate, if_pos hv], .inl ⟨rfl, fun l hl => by cases hl⟩⟩
  | succ n ih =>
    intro zs hn hz v hv
    rcases List.eq_nil_or_concat zs with rfl | ⟨ys, l, rfl⟩
    · simp at hn
    · rw [List.concat_eq_append] at hn hz ⊢
      obtain ⟨x, hx, h⟩ := ih ys (by simpa using hn) (fun l hl => hz l (by simp [hl])) v hv
      have hl := absI_pos (hz l (by simp))
      rw [seenL_snoc]
      by_cases e : (absI l).toNat = v
      · refine ⟨l, by rw [e, List.getElem?_set_self (by rw [seenL_len]; exact hv)], .inr ⟨by simp, by omega⟩⟩
      · refine ⟨x, by rw [List.getElem?_set_ne e]; exact hx, ?_⟩
        rcases h with ⟨h0, h1⟩ | ⟨h0, h1⟩
        · refine .inl ⟨h0, fun k hk => ?_⟩
          rcases List.mem_append.1 hk with hk | hk
          · exact h1 k hk
          · obtain rfl : k = l := by simpa using hk
            omega
        · exact .inr ⟨by simp [h0], h1⟩
theorem seenL_at (zs : List Int) (hz : ∀ l ∈ zs, litB l = true) : ∀ v : Nat, v < 13 → ∃ x, (seenL zs)[v]? = some x ∧ (x = 0 ∧ (∀ l ∈ zs, absI l ≠ v) ∨ x ∈ zs ∧ absI x = v) := seenL_atN _ zs rfl hz
theorem absI_eq {a b : Int} (h : absI a = absI b) : a = b ∨ a = -b := by unfold absI at h; split at h <;> split at h <;> omega
theorem coOk_lit {zs : List Int} (h : coOk zs = true) : ∀ l ∈ zs, litB l = true ∧ -l ∉ zs := fun l hl => by
  have := List.all_eq_true.1 h l hl
  rw [Bool.and_eq_true] at this
  exact ⟨this.1, by have := this.2; simpa using this⟩
theorem coOk_of {zs : List Int} (h : ∀ l ∈ zs, litB l = true ∧ -l ∉ zs) : coOk zs = true := by
  unfold coOk
  rw [List.all_eq_true]
  intro l hl
  rw [Bool.and_eq_true]
  exact ⟨(h l hl).1, by have := (h l hl).2; simpa using this⟩
/-- one literal more -/
theorem coOk_snoc {zs : List Int} {l : Int} (h : coOk zs = true) (hl : litB l = true) : coOk (zs ++ [l]) = true ↔ (seenL zs)[(absI l).toNat]? ≠ some (-l) := by
  have hp := absI_pos hl
  have hlit := coOk_lit h
  obtain ⟨x, hx, hc⟩ := seenL_at zs (fun l hl => (hlit l hl).1) (absI l).toNat (by omega)
  have hl0 : l ≠ 0 := ((litB_iff l).1 hl).1
  rw [hx]
  constructor
  · intro h2 e
    injection e with e
    subst e
    have := coOk_lit h2
    rcases hc with ⟨h0, _⟩ | ⟨h0, _⟩
    · omega
    · exact (this l (by simp)).2 (by simp [h0])
  · intro hne
    have hne' : x ≠ -l := fun e => hne (by rw [e])
    have hno : -l ∉ zs := fun hm => by
      rcases hc with ⟨_, h1⟩ | ⟨h0, h1⟩
      · have := h1 _ hm; apply this; unfold absI at hp ⊢; split <;> split at hp <;> split <;> omega
      · have e2 : absI x = absI l := by omega
        rcases absI_eq e2 with e | e
        · subst e; exact (hlit x h0).2 hm
        · exact hne' e
    refine coOk_of fun k hk => ?_
    rcases List.mem_append.1 hk with hk | hk
    · refine ⟨(hlit k hk).1, fun hm => ?_⟩
      rcases List.mem_append.1 hm with hm | hm
      · exact (hlit k hk).2 hm
      · have : l = -k := by simpa [eq_comm] using hm
        exact hno (by rw [this]; simpa using hk)
    · obtain rfl : k = l := by simpa using hk
      refine ⟨hl, fun hm => ?_⟩
      rcases List.mem_append.1 hm with hm | hm
      · exact hno hm
      · have : -k = k := by simpa using hm
        omega
theorem coOk_take {zs : List Int} (h : coOk zs = true) (k : Nat) : coOk (zs.take k) = true :=
  coOk_of fun l hl => ⟨(coOk_lit h l (List.mem_of_mem_take hl)).1, fun hm => (coOk_lit h l (List.mem_of_mem_take hl)).2 (List.mem_of_mem_take hm)⟩
def coB (zs : List Int) : Bool := decide (zs.length ≤ 40) && coOk zs
/-- the terms of the first m variables -/
def coUp (s : List Int) (m : Nat) : List Tm := (List.range m).filterMap fun i => if s.getD (i + 1) 0 = 0 then none else some (1, s.getD (i + 1) 0)
theorem coUp_succ (s : List Int) (m : Nat) : coUp s (m + 1) = coUp s m ++ (if s.getD (m + 1) 0 = 0 then [] else [(1, s.getD (m + 1) 0)]) := by
  unfold coUp
  rw [List.range_succ, List.filterMap_append]
  congr 1
  simp only [List.filterMap_cons, List.filterMap_nil]
  split <;> split <;> simp_all
theorem coUp_len (s : List Int) (m : Nat) : (coUp s m).length ≤ m := by
  unfold coUp
  have := List.length_filterMap_le (fun i => if s.getD (i + 1) 0 = 0 then none else some ((1 : Int), s.getD (i + 1) 0)) (List.range m)
  simpa using this
def coT (zs : List Int) : List Tm := if coB zs = true then coUp (seenL zs) 12 else []
def coD (zs : List Int) : Int := if coB zs = true then 1 else 0
theorem coT_len (zs : List Int) : (coT zs).length ≤ 1048576 := by
  unfold coT; split
  · have := coUp_len (seenL zs) 12; omega
  · simp
theorem coB_of {zs : List Int} (h1 : zs.length ≤ 40) (h2 : coOk zs = true) : coB zs = true := by unfold coB; rw [h2]; simp [h1]
theorem coB_no {zs : List Int} (h2 : coOk zs = false) : coB zs = false := by unfold coB; rw [h2, Bool.and_false]
theorem coOk_no {zs : List Int} {k : Nat} (h : coOk (zs.take k) = false) : coOk zs = false := by
  cases hc : coOk zs with
  | false => rfl
  | true => rw [coOk_take hc k] at h; cases h
theorem encI_set1 (s : List Int) (m : Nat) (l : Int) : (encI s).toArray.setIfInBounds m (.int .i64 l) = (encI (s.set m l)).toArray := by simp [encI, List.map_set]
end Go.Proofs.Ytbpkpcfhmglddaa
