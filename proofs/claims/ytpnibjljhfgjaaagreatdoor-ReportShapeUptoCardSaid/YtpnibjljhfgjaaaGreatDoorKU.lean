/- From here on report.values is called for its value alone. -/
import Derived.Test.YtpnibjljhfgjaaaGreatDoorK6
namespace Go.Sim.M
open Go.RowKit Go.Proofs

noncomputable def EKU : Env := EK6.unM 28
theorem EKU_ok : OrcOk Tryz.prog ITryz EKU := EK6_ok.unM _

end Go.Sim.M
