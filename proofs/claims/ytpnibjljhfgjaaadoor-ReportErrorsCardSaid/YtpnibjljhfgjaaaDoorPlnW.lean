/- The law that every error has its name. -/
import Derived.Test.YtpnibjljhfgjaaaDoorDoorZ
import Derived.Test.YtpnibjljhfgjaaaDoorKL
set_option maxRecDepth 100000
namespace Go.Sim.M
theorem error_range : ((List.range 27).all fun k => (report_Error (k : Int)).isSome) = true := by kernel_rfl
theorem error_some (e : Int) : (report_Error e).isSome = true := by
  by_cases h0 : e < 0
  · unfold report_Error report_Error_t; rw [decide_eq_true h0]; rfl
  · by_cases h1 : e ≥ 27
    · unfold report_Error report_Error_t; rw [decide_eq_false h0, decide_eq_true h1]; rfl
    · obtain ⟨k, rfl⟩ := Int.eq_ofNat_of_zero_le (show 0 ≤ e by omega)
      exact List.all_eq_true.1 error_range k (List.mem_range.2 (by omega))
theorem law_errors (e : Int) (_w : (Lit.int .i64 e).wf = true) : law55_ReportErrors e = some true := by
  have h1 := error_some e
  have h2 : ref55_Error e = report_Error e := rfl
  unfold law55_ReportErrors law55_ReportErrors_t
  rw [h2, h1]
  simp [br_if]
end Go.Sim.M
