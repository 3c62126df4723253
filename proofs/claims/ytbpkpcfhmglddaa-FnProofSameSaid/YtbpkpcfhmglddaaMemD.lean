/- Regions that draw their order and whose callees lay blocks of their own: one walk in the order of the text, in whatever world extends the first. -/
import Derived.Test.YtbpkpcfhmglddaaMemC
namespace Go.Proofs.Ytbpkpcfhmglddaa
open Go.RowKit

/-- a world in which nothing that was in w has turned -/
structure ExtBy (w : World) where
  to : World
  ext : Ext w to

instance extByInhabited (w : World) : Inhabited (ExtBy w) := ⟨⟨w, Ext.refl w⟩⟩

/-- the value that comes back, spelt otherwise -/
theorem calls_val {P : Program} {f : FuncId} {args : Array Value} {w : World} {v v' : Value} {R : World → Prop} (h : Calls P f args w fun e w' => e = .returned v ∧ R w') (hv : v = v') :
    Calls P f args w fun e w' => e = .returned v' ∧ R w' := by subst hv; exact h

theorem ext_call {P : Program} {f : FuncId} {args : Array Value} {w : World} {p : ExtBy w} {v : Value}
    (h : Calls P f args p.to fun e w' => e = .returned v ∧ Ext p.to w') : Calls P f args p.to fun e w'' => e = .returned v ∧ ∃ q : ExtBy w, w'' = q.to :=
  h.mono fun _ w'' ⟨he, hm⟩ => ⟨he, ⟨w'', p.ext.trans hm⟩, rfl⟩
theorem same_call {P : Program} {f : FuncId} {args : Array Value} {w : World} {p : ExtBy w} {v : Value}
    (h : Calls P f args p.to fun e w' => e = .returned v ∧ p.to = w') : Calls P f args p.to fun e w'' => e = .returned v ∧ ∃ q : ExtBy w, w'' = q.to :=
  h.mono fun _ _ ⟨he, hm⟩ => ⟨he, p, hm.symm⟩

theorem wp_region_ext_lit {P : Program} {id : Nat} {Q : Exit → Act → World → Prop} {a : Act} {w : World} {l : List Oper} (hm : P.follows .mixedOrders = true) (hB : Region.lexB .any l.toArray = true)
    (h : wpQuiet P l.toArray (fun w' => ∃ p : ExtBy w, w' = p.to) (fun a' => ∀ w', (∃ p : ExtBy w, w' = p.to) → Q .normal a' w') l a) : (Code.region id l.toArray true).wp P Q a w :=
  wp_region_quiet (C := fun w' => ∃ p : ExtBy w, w' = p.to) hm hB ⟨⟨w.drew, (Ext.refl w).drew⟩, rfl⟩ (by simpa using h)

theorem ExtBy.cell {w : World} {a : Addr} {u : Value} (h : w.cell? a = some u) (p : ExtBy w) : p.to.cell? a = some u := p.ext.cell h
end Go.Proofs.Ytbpkpcfhmglddaa
