/- Drawn partial assignments; DrawExtendsPartial. -/
import Derived.Test.YtmbdfnimmjomfaaRdV
import Derived.Test.YtmbdfnimmjomfaaSetAt
namespace Go.Proofs.Ytmbdfnimmjomfaa
open Go.RowKit


end Go.Proofs.Ytmbdfnimmjomfaa
