/- What a datum of this seat's laws says: for each type met from their parameters. Printed by frame2.py. -/
import Derived.Test.YtniapbinamnmpaaDoorLx0
import Derived.Test.YtniapbinamnmpaaDoorOp
import Derived.KernelRfl
namespace Go.Proofs.YtniapbinamnmpaaDoor.L
open Go.RowKit Go.Proofs.YtniapbinamnmpaaDoorW.PrintWords Go.Proofs.YtniapbinamnmpaaDoorW.PrintLast Go.Proofs.YtniapbinamnmpaaDoorW.PrintMore Go.Proofs.YtniapbinamnmpaaDoor
set_option linter.unusedVariables false
set_option linter.unusedSimpArgs false
end Go.Proofs.YtniapbinamnmpaaDoor.L
