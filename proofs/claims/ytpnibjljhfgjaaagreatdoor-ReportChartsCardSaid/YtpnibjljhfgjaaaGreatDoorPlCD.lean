/- The law on charts, as the card asks for it. -/
import Derived.Test.YtpnibjljhfgjaaaGreatDoorDoorC
import Derived.Test.YtpnibjljhfgjaaaGreatDoorPlCL
set_option linter.unusedVariables false
namespace Go.Sim.M
open Go.RowKit Go.Lib
theorem law_cha (a : List Per) (b : Per) (c : Int) (wa : a.length ≤ maxLen ∧ ∀ y, y ∈ a → PerWf y) (wb : PerWf b) (wc : (Lit.int .i64 c).wf = true) : law55_ReportCharts (a.map encP) b.1 b.2 c = some true := law_charts a b c
end Go.Sim.M
