/- The third layer's environment and the closed examples. -/
import Derived.Test.YtlapjnnkblbhdaaDoorL3
import Derived.Test.YtlapjnnkblbhdaaDoorAwake
namespace Go.Sim.M
open Go.RowKit Go.Proofs
noncomputable def EA3 : Env := EL3.with 14 awake_o
theorem EA3_ok : OrcOk Tryd.prog ITryd EA3 := EL3_ok.with awake_c
end Go.Sim.M
