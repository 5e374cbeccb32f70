/- The environment of library contracts, strings.Builder among them. -/
import Derived.Test.YtpnibjljhfgjaaaDoorBld
import Derived.Test.YtpnibjljhfgjaaaDoorPat
namespace Go.Sim.M
open Go.RowKit Go.Proofs
def E0 : Env := ((((((Env.none.with 48 strings_ReplaceAll_o).with 20 strconv_Itoa_o).with 31 strings_Join_o).with 40 strings_Repeat_o).withM 29 copyCheck_o).withM 18 builder_String_o)
theorem E0_ok : OrcOk Tryd.prog ITryd E0 := (((((orcOk_none.with strings_ReplaceAll_c).with strconv_Itoa_c).with strings_Join_c).with strings_Repeat_c).withM copyCheck_c).withM builder_String_c
end Go.Sim.M
