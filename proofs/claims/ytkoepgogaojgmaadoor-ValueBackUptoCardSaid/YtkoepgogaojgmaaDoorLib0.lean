/- The environment of library contracts. -/
import Derived.Test.YtkoepgogaojgmaaDoorLib
namespace Go.Sim
open Go.RowKit Go.Proofs
def E0 : Env := (((Env.none.with 56 strings_Compare_o).with 64 strings_Contains_o).with 51 strings_ReplaceAll_o).with 50 strconv_Itoa_o
theorem E0_ok : OrcOk Tryd.prog ITryd E0 := (((orcOk_none.with strings_Compare_c).with strings_Contains_c).with strings_ReplaceAll_c).with strconv_Itoa_c
end Go.Sim
