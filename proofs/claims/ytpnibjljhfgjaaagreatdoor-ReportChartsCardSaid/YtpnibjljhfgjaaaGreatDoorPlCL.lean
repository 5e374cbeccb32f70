/- The law on charts. -/
import Derived.Test.YtpnibjljhfgjaaaGreatDoorPlCh
import Derived.Test.YtpnibjljhfgjaaaGreatDoorKCL
set_option linter.unusedVariables false
set_option maxRecDepth 100000
namespace Go.Sim.M
open Go.RowKit Go.Lib
theorem law_charts (l : List Per) (d : Per) (width : Int) : law55_ReportCharts (l.map encP) d.1 d.2 width = some true := by
  unfold law55_ReportCharts law55_ReportCharts_t
  rw [List.length_map]
  by_cases h : ((l.length : Nat) : Int) > 100
  · rw [decide_eq_true h]; rfl
  · obtain ⟨e1, e2⟩ := chart_both l (by omega) d width
    rw [decide_eq_false h, e1, e2]
    simp only [Option.isSome_some, Option.getD_some, br_tt, br_ff, beq_self_eq_true]
end Go.Sim.M
