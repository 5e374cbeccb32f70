/- The law that rows compare as defined. -/
import Derived.Test.YtlapjnnkblbhdaaDoorLA
import Derived.Test.YtlapjnnkblbhdaaDoorPlainA
set_option linter.unusedVariables false
set_option linter.unusedSimpArgs false
set_option maxRecDepth 100000
namespace Go.Sim.M
open Go.RowKit

theorem law_compares (a b : Row) (ha : a.wf) (hb : b.wf) : law08_TupleCompares_pre (a.map encV) (b.map encV) = true ∧ law08_TupleCompares (a.map encV) (b.map encV) = true := by
  obtain ⟨p1, e1⟩ := tuple_cmp a b ha.1
  obtain ⟨p2, e2⟩ := ref_cmp a b ha.1
  obtain ⟨p3, e3⟩ := tuple_eq a b ha.1
  obtain ⟨p4, e4⟩ := ref_eq a b ha.1
  unfold law08_TupleCompares_pre law08_TupleCompares
  rw [p1, p2, p3, p4, e1, e2, e3, e4]
  simp [br_if]
end Go.Sim.M
