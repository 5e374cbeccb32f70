/- The law on empty charts, as the card asks for it. -/
import Derived.Test.YtpnibjljhfgjaaaDoorDoorC
import Derived.Test.YtpnibjljhfgjaaaDoorPlCL
set_option linter.unusedVariables false
namespace Go.Sim.M
open Go.RowKit Go.Lib
theorem law_emp (a : Per) (b : Int) (wa : PerWf a) (wb : (Lit.int .i64 b).wf = true) : law55_ReportEmpty a.1 a.2 b = some true := law_empty a b
end Go.Sim.M
