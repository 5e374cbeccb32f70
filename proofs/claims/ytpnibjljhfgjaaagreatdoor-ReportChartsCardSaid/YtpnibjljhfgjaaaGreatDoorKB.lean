/- The environment behind the first layers: padded, slices.Clone and slices.Grow too. -/
import Derived.Test.YtpnibjljhfgjaaaGreatDoorK3
import Derived.Test.YtpnibjljhfgjaaaGreatDoorPad0
import Derived.Test.YtpnibjljhfgjaaaGreatDoorCloneM
import Derived.Test.YtpnibjljhfgjaaaGreatDoorGrowS
namespace Go.Sim.M
open Go.RowKit Go.Proofs
noncomputable def EKB : Env := ((EK3.with 54 report_padded_o).withM 53 slices_Clone_o).withM 67 slices_Grow_o
theorem EKB_ok : OrcOk Tryz.prog ITryz EKB := ((EK3_ok.with report_padded_c).withM slices_Clone_c).withM slices_Grow_c
end Go.Sim.M
