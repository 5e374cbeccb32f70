/- The eighth layer's environment and the closed examples. -/
import Derived.Test.YtlapjnnkblbhdaaDoorL8
import Derived.Test.YtlapjnnkblbhdaaDoorAwake
namespace Go.Sim.M
open Go.RowKit Go.Proofs
noncomputable def EA8 : Env := EL8.with 14 awake_o
theorem EA8_ok : OrcOk Tryd.prog ITryd EA8 := EL8_ok.with awake_c
end Go.Sim.M
