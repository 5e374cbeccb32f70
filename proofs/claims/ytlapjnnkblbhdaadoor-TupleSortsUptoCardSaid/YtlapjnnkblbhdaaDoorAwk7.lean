/- The seventh layer's environment and the closed examples. -/
import Derived.Test.YtlapjnnkblbhdaaDoorL7
import Derived.Test.YtlapjnnkblbhdaaDoorAwake
namespace Go.Sim.M
open Go.RowKit Go.Proofs
noncomputable def EA7 : Env := EL7.with 14 awake_o
theorem EA7_ok : OrcOk Tryd.prog ITryd EA7 := EL7_ok.with awake_c
end Go.Sim.M
