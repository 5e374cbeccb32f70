/- The environment of the laws: all layers, and the closed examples. -/
import Derived.Test.YtpnibjljhfgjaaaGreatDoorKC2
import Derived.Test.YtpnibjljhfgjaaaGreatDoorAwz
namespace Go.Sim.M
open Go.RowKit Go.Proofs
noncomputable def EKCA : Env := EKC2.with 10 awake_o
theorem EKCA_ok : OrcOk Tryz.prog ITryz EKCA := EKC2_ok.with awake_c
end Go.Sim.M
