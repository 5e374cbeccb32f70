/- The environment of the laws: all layers, and the closed examples. -/
import Derived.Test.YtpnibjljhfgjaaaGreatDoorK8
import Derived.Test.YtpnibjljhfgjaaaGreatDoorAwz
namespace Go.Sim.M
open Go.RowKit Go.Proofs
noncomputable def EKA : Env := EK8.with 10 awake_o
theorem EKA_ok : OrcOk Tryz.prog ITryz EKA := EK8_ok.with awake_c
end Go.Sim.M
