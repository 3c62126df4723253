/- TotalCoef and ConstraintFalse, the program's and the reference's. -/
import Derived.Test.YtbpkpcfhmglddaaTot
namespace Go.Proofs.Ytbpkpcfhmglddaa
open Go.RowKit

def tcI (ts : List Tm) (bd : Int) : Int := if cvB ts bd = true then sumT ts else 0
def cfB (ts : List Tm) (bd : Int) : Bool := cvB ts bd && decide (sumT ts < bd)





end Go.Proofs.Ytbpkpcfhmglddaa
