/- Comparison of lists of terms, by a name. -/
import Derived.Test.YtmbdfnimmjomfaaEqT
namespace Go.Proofs.Ytmbdfnimmjomfaa

def tEq (a b : List Tm) : Bool := decide (a = b)
theorem tEq_self (a : List Tm) : tEq a a = true := by simp [tEq]
theorem eqTermS2 (A : Option Addr) (n cap : Nat) (ts : List Tm) (A' : Option Addr) (n' cap' : Nat) (us : List Tm) (w : World) (hn : n ≤ maxLen) (h : Seg w 2 A n (encT ts)) (hn' : n' ≤ maxLen) (h' : Seg w 2 A' n' (encT us)) :
    Calls Try.prog 13 #[.slice A n cap, .slice A' n' cap'] w fun e w' => e = .returned (.bool (tEq ts us)) ∧ Ext w w' :=
  eqTermS_any A A' n n' cap cap' ts us w hn hn' h h'
end Go.Proofs.Ytmbdfnimmjomfaa
