/- The environment of the laws: all layers, and the closed examples. -/
import Derived.Test.YtpnibjljhfgjaaaDoorKC2
import Derived.Test.YtpnibjljhfgjaaaDoorAwz
namespace Go.Sim.M
open Go.RowKit Go.Proofs
noncomputable def EKCA : Env := EKC2.with 7 awake_o
theorem EKCA_ok : OrcOk Tryd.prog ITryd EKCA := EKC2_ok.with awake_c
end Go.Sim.M
