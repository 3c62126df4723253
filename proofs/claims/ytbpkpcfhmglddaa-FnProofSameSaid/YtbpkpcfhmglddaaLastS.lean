/- Regions that draw their order and whose last operation waits for all the others: a condition on the world that holds till that operation comes. No program is named here. -/
import Derived.Test.YtbpkpcfhmglddaaMemD
import Derived.OrdersHeld
import Derived.Deep.RegionHeld3
namespace Go.Proofs.Ytbpkpcfhmglddaa
open Go.RowKit

section
variable {P : Program} {ops : Array Oper} {Q : Exit → Act → World → Prop} {md : Region.Mode} {S : World → Prop} {z : Nat}

/-- operation z waits for operation i -/
def lastB (md : Region.Mode) (ops : Array Oper) (z i : Nat) : Bool :=
  match ops[z]? with
  | some oz => oz.after.any fun e => Region.binds md e && e.on == i
  | none => false

theorem lastB_spec {i : Nat} (h : lastB md ops z i = true) {listed : Array Bool} (hz : z ∈ Region.ready md ops listed) : listed.getD i false = true := by
  obtain ⟨_, oz, hoz, hall⟩ := mem_ready.1 hz
  unfold lastB at h
  rw [hoz] at h
  obtain ⟨e, he, hb⟩ := Array.any_eq_true'.1 h
  rw [Bool.and_eq_true] at hb
  have := hall e he hb.1
  have he2 : e.on = i := by simpa using hb.2
  rw [he2] at this
  exact this

/-- whatever order is picked, and S holds behind every operation but z -/
def wpAnyZ (P : Program) (md : Region.Mode) (ops : Array Oper) (Q : Exit → Act → World → Prop) (S : World → Prop) (z : Nat) : Nat → Array Bool → Act → World → Prop
  | 0, listed, a, w => Region.ready md ops listed = [] ∧ Q .normal a w
  | fuel + 1, listed, a, w =>
    (Region.ready md ops listed = [] → Q .normal a w) ∧
    ∀ i ∈ Region.ready md ops listed, wpOp P ops Q i (fun a' w' => (i ≠ z → S w') ∧ wpAnyZ P md ops Q S z fuel (listed.setIfInBounds i true) a' w') a w

theorem wpAny_of_Z : ∀ (fuel : Nat) (listed : Array Bool) (a : Act) (w : World), wpAnyZ P md ops Q S z fuel listed a w → wpAny P md ops Q fuel listed a w
  | 0, _, _, _, h => h
  | fuel + 1, _, _, _, h => ⟨h.1, fun i hi => wpOp_mono (fun _ _ h' => wpAny_of_Z fuel _ _ _ h'.2) (h.2 i hi)⟩

theorem unlisted_false {listed : Array Bool} {i : Nat} (h : listed.getD i true = false) : listed.getD i false = false := by
  rcases Nat.lt_or_ge i listed.size with h' | h'
  · simp [h'] at h ⊢; exact h
  · simp [Array.getElem?_eq_none h'] at h

theorem wpAnyZ_first {i : Nat} {oi : Oper} {v : Value} (hlast : lastB md ops z i = true) (hiz : i ≠ z) (hi : ops[i]? = some oi) (hsel : ∀ (j : Nat) (o : Oper) cs b, ops[j]? = some o → o.op ≠ .select cs b)
    (hQ : ∀ c a w, Q (.panic c) (a.put oi.dst v) w → Q (.panic c) a w) :
    ∀ (fuel : Nat) (listed : Array Bool) (a : Act) (w : World),
      (∀ j oj, ops[j]? = some oj → j ≠ i → listed.getD j true = false → (∀ e ∈ oj.after, Region.binds md e = true → e.on ≠ i) → oi.apart ops oj = true) →
      i ∈ Region.ready md ops listed → YieldsIf P ops S oi v a → S w →
      wpAnyZ P md ops Q S z fuel (listed.setIfInBounds i true) (a.put oi.dst v) w → wpAnyZ P md ops Q S z (fuel + 1) listed a w := by
  have hilt : i < ops.size := (Array.getElem?_eq_some_iff.1 hi).1
  intro fuel
  induction fuel with
  | zero =>
    intro listed a w _ hr hy hS H
    refine ⟨fun h => (by rw [h] at hr; cases hr), fun j hj => ?_⟩
    by_cases hji : j = i
    · subst hji; exact hy.wpOp hi hS ⟨fun _ => hS, H⟩
    · have := ready_mono hj hji
      rw [H.1] at this
      cases this
  | succ fuel ih =>
    intro listed a w hfree hr hy hS H
    refine ⟨fun h => (by rw [h] at hr; cases hr), fun j hj => ?_⟩
    by_cases hji : j = i
    · subst hji; exact hy.wpOp hi hS ⟨fun _ => hS, H⟩
    · have hun := (mem_ready.1 hr).1
      have hjz : j ≠ z := fun e => by
        subst e
        have := lastB_spec hlast hj
        rw [unlisted_false hun] at this
        cases this
      have h1 := H.2 j (ready_mono hj hji)
      obtain ⟨hjun, oj, hoj, hall⟩ := mem_ready.1 hj
      have hnot : ∀ e ∈ oj.after, Region.binds md e = true → e.on ≠ i := fun e he hb heq => by
        have h1 := hall e he hb
        rw [heq, unlisted_false hun] at h1
        cases h1
      have h2 := wpOp_putIf hoj (hfree j oj hoj hji hjun hnot) (fun cs b => hsel i oi cs b hi) (fun cs b => hsel j oj cs b hoj) hQ hy h1
      have hfree' : ∀ k ok, ops[k]? = some ok → k ≠ i → (listed.setIfInBounds j true).getD k true = false →
          (∀ e ∈ ok.after, Region.binds md e = true → e.on ≠ i) → oi.apart ops ok = true := fun k ok hk hki hun hno => by
        refine hfree k ok hk hki ?_ hno
        by_cases hjk : j = k
        · subst hjk; exact hjun
        · rw [getD_set_ne true hjk] at hun; exact hun
      refine wpOp_mono (fun a' w' h3 => ⟨h3.2.1, ih (listed.setIfInBounds j true) a' w' hfree' (ready_mono hr (Ne.symm hji)) h3.1 (h3.2.1 hjz) ?_⟩) h2
      rw [Array.setIfInBounds_comm _ _ hji]
      exact h3.2.2

/-- take number i first -/
theorem wpAnyZ_take (i : Nat) {oi : Oper} {v : Value} {fuel : Nat} {listed : Array Bool} {a : Act} {w : World} (hlast : lastB md ops z i = true) (hiz : (i == z) = false) (hi' : ops.toList[i]? = some oi)
    (hs : Region.noSelect ops = true) (hf : Region.free md ops listed i = true) (hr : (Region.ready md ops listed).contains i = true)
    (hQ : ∀ c a w, Q (.panic c) (a.put oi.dst v) w → Q (.panic c) a w) (hS : S w) (hy : YieldsIf P ops S oi v a)
    (h : wpAnyZ P md ops Q S z fuel (listed.setIfInBounds i true) (a.put oi.dst v) w) : wpAnyZ P md ops Q S z (fuel + 1) listed a w :=
  have hi : ops[i]? = some oi := by rw [← hi', Array.getElem?_toList]
  wpAnyZ_first hlast (by simpa using hiz) hi (Region.noSelect_spec hs) hQ fuel listed a w (Region.free_spec hi hf) (by simpa using hr) hy hS h

/-- number i alone may come up, and it is not z -/
theorem wpAnyZ_one (i : Nat) {o : Oper} {fuel : Nat} {listed : Array Bool} {a : Act} {w : World} (hr : Region.ready md ops listed = [i]) (hi' : ops.toList[i]? = some o) (hg : o.guard = none)
    (h' : ∀ K : Act → World → Prop, Hid (∀ a' w', S w' → wpAnyZ P md ops Q S z fuel (listed.setIfInBounds i true) a' w' → K a' w') → o.wp P a w K Q) : wpAnyZ P md ops Q S z (fuel + 1) listed a w := by
  have hi : ops[i]? = some o := by rw [← hi', Array.getElem?_toList]
  have h := h' (fun a' w' => S w' ∧ wpAnyZ P md ops Q S z fuel (listed.setIfInBounds i true) a' w') fun _ _ h1 h2 => ⟨h1, h2⟩
  refine ⟨fun h0 => (by rw [hr] at h0; cases h0), fun j hj => ?_⟩
  rw [hr] at hj
  have hji : j = i := by simpa using hj
  subst hji
  have hw : Region.wanted o (yielded ops a.tmps) = true := by simp [Region.wanted, hg]
  unfold wpOp
  simp only [hi, hw, if_true]
  exact .inl (Oper.wp_mono (fun _ _ h' => ⟨fun _ => h'.1, h'.2⟩) h)

/-- i or j may come up, neither is z -/
theorem wpAnyZ_two (i j : Nat) {oi oj : Oper} {fuel : Nat} {listed : Array Bool} {a : Act} {w : World} (hr : Region.ready md ops listed = [i, j]) (hi' : ops.toList[i]? = some oi) (hj' : ops.toList[j]? = some oj) (gi : oi.guard = none) (gj : oj.guard = none)
    (h1 : ∀ K : Act → World → Prop, Hid (∀ a' w', S w' → wpAnyZ P md ops Q S z fuel (listed.setIfInBounds i true) a' w' → K a' w') → oi.wp P a w K Q)
    (h2 : ∀ K : Act → World → Prop, Hid (∀ a' w', S w' → wpAnyZ P md ops Q S z fuel (listed.setIfInBounds j true) a' w' → K a' w') → oj.wp P a w K Q) : wpAnyZ P md ops Q S z (fuel + 1) listed a w := by
  have hi : ops[i]? = some oi := by rw [← hi', Array.getElem?_toList]
  have hj : ops[j]? = some oj := by rw [← hj', Array.getElem?_toList]
  have H1 := h1 (fun a' w' => S w' ∧ wpAnyZ P md ops Q S z fuel (listed.setIfInBounds i true) a' w') fun _ _ h1 h2 => ⟨h1, h2⟩
  have H2 := h2 (fun a' w' => S w' ∧ wpAnyZ P md ops Q S z fuel (listed.setIfInBounds j true) a' w') fun _ _ h1 h2 => ⟨h1, h2⟩
  have wi : Region.wanted oi (yielded ops a.tmps) = true := by simp [Region.wanted, gi]
  have wj : Region.wanted oj (yielded ops a.tmps) = true := by simp [Region.wanted, gj]
  refine ⟨fun h0 => (by rw [hr] at h0; cases h0), fun k hk => ?_⟩
  rw [hr] at hk
  rcases List.mem_cons.1 hk with rfl | hk
  · unfold wpOp
    simp only [hi, wi, if_true]
    exact .inl (Oper.wp_mono (fun _ _ h' => ⟨fun _ => h'.1, h'.2⟩) H1)
  · obtain rfl : k = j := by simpa using hk
    unfold wpOp
    simp only [hj, wj, if_true]
    exact .inl (Oper.wp_mono (fun _ _ h' => ⟨fun _ => h'.1, h'.2⟩) H2)

/-- z comes up, the last -/
theorem wpAnyZ_last {o : Oper} {fuel : Nat} {listed : Array Bool} {a : Act} {w : World} (hr : Region.ready md ops listed = [z]) (hr' : Region.ready md ops (listed.setIfInBounds z true) = []) (hi' : ops.toList[z]? = some o) (hg : o.guard = none)
    (h' : ∀ K : Act → World → Prop, Hid (∀ a' w', Q .normal a' w' → K a' w') → o.wp P a w K Q) : wpAnyZ P md ops Q S z (fuel + 1) listed a w := by
  have hi : ops[z]? = some o := by rw [← hi', Array.getElem?_toList]
  have h := h' (fun a' w' => Q .normal a' w') fun _ _ h1 => h1
  refine ⟨fun h0 => (by rw [hr] at h0; cases h0), fun j hj => ?_⟩
  rw [hr] at hj
  have hji : j = z := by simpa using hj
  subst hji
  have hw : Region.wanted o (yielded ops a.tmps) = true := by simp [Region.wanted, hg]
  unfold wpOp
  simp only [hi, hw, if_true]
  refine .inl (Oper.wp_mono (fun _ _ h' => ⟨fun hne => absurd rfl hne, ?_⟩) h)
  cases fuel with
  | zero => exact ⟨hr', h'⟩
  | succ n => exact ⟨fun _ => h', by rw [hr']; simp⟩

theorem wp_region_Z {id : Nat} {a : Act} {w : World} (S : World → Prop) (z : Nat) (hm : P.follows .mixedOrders = true)
    (h : wpAnyZ P .any ops Q S z ops.size (Array.replicate ops.size false) a w.drew) : (Code.region id ops true).wp P Q a w :=
  wp_region_any hm (wpAny_of_Z _ _ _ _ h)
end
end Go.Proofs.Ytbpkpcfhmglddaa
