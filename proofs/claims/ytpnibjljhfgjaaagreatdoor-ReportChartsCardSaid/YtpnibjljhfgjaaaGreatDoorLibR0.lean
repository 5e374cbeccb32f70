/- The environment of library contracts, strings.Builder among them. -/
import Derived.Test.YtpnibjljhfgjaaaGreatDoorBld
import Derived.Test.YtpnibjljhfgjaaaGreatDoorPat
namespace Go.Sim.M
open Go.RowKit Go.Proofs
def E0 : Env := ((((((Env.none.with 73 strings_ReplaceAll_o).with 23 strconv_Itoa_o).with 50 strings_Join_o).with 56 strings_Repeat_o).withM 63 copyCheck_o).withM 41 builder_String_o)
theorem E0_ok : OrcOk Tryz.prog ITryz E0 := (((((orcOk_none.with strings_ReplaceAll_c).with strconv_Itoa_c).with strings_Join_c).with strings_Repeat_c).withM copyCheck_c).withM builder_String_c
end Go.Sim.M
