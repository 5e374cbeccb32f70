/- The environment of library contracts. -/
import Derived.Test.YtlapjnnkblbhdaaDoorClone
namespace Go.Sim.M
open Go.RowKit Go.Proofs
def E0 : Env := ((((Env.none.with 51 strings_Compare_o).with 59 strings_ReplaceAll_o).with 58 strconv_Itoa_o).with 43 strings_Join_o).with 54 slices_Clone_o
theorem E0_ok : OrcOk Tryd.prog ITryd E0 := ((((orcOk_none.with strings_Compare_c).with strings_ReplaceAll_c).with strconv_Itoa_c).with strings_Join_c).with slices_Clone_c
end Go.Sim.M
