/- Contracts of the law's own copies: toTerm, toTermS, toConstraint. -/
import Derived.Test.YtbpkpcfhmglddaaMemC
namespace Go.Proofs.Ytbpkpcfhmglddaa
open Go.RowKit

theorem Try.infoTm : (Try.prog.info? 38).map (fun i => (i.zero, i.size, i.bytes)) = some (some (.agg #[.int .i64 0, .int .i64 0]), 2, 16) := by kernel_rfl

def RetT (ts : List Tm) (w : World) (e : Ending) (w' : World) : Prop :=
  ∃ A n cap, e = .returned (.slice A n cap) ∧ ts.length = n ∧ Got w w' 2 A n (encT ts) ∧ Ext w w'

/-- a constraint of the laws' own type, as a value, copied to one of the program's -/
def RetC (ts : List Tm) (bd : Int) (w : World) (e : Ending) (w' : World) : Prop :=
  ∃ A n cap, e = .returned (.agg #[.slice A n cap, .int .i64 bd]) ∧ ts.length = n ∧ Got w w' 2 A n (encT ts) ∧ Ext w w'

end Go.Proofs.Ytbpkpcfhmglddaa
