/- The first layer's environment, slices.Grow and the closed examples. -/
import Derived.Test.YtlapjnnkblbhdaaDoorL1
import Derived.Test.YtlapjnnkblbhdaaDoorGrow
import Derived.Test.YtlapjnnkblbhdaaDoorAwake
import Derived.Test.YtlapjnnkblbhdaaDoorPat
namespace Go.Sim.M
open Go.RowKit Go.Proofs
noncomputable def EG : Env := (EL1.withM 69 slices_Grow_o).with 14 awake_o
theorem EG_ok : OrcOk Tryd.prog ITryd EG := (EL1_ok.withM slices_Grow_c).with awake_c
end Go.Sim.M
