/- The environment of the laws: the closed examples. -/
import Derived.Test.YtpnibjljhfgjaaaDoorK2
import Derived.Test.YtpnibjljhfgjaaaDoorAwz
namespace Go.Sim.M
open Go.RowKit Go.Proofs
noncomputable def EKA : Env := EK2.with 7 awake_o
theorem EKA_ok : OrcOk Tryd.prog ITryd EKA := EK2_ok.with awake_c
end Go.Sim.M
