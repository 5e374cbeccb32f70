/- The law on violations, as the card asks for it. -/
import Derived.Test.YtpnibjljhfgjaaaGreatDoorDoorZ
import Derived.Test.YtpnibjljhfgjaaaGreatDoorPlnV
namespace Go.Sim.M
theorem law_viol (a : Viol) (w : a.wf) : law55_ReportViolations a.k a.tb a.ix (a.r.map encV) a.f a.t = some true := law_violations _ _ _ _ _ _ w.1
end Go.Sim.M
