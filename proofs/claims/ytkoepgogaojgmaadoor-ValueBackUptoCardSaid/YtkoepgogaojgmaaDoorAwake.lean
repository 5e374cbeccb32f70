/- The law package's own closed examples, run by the kernel. -/
import Derived.Test.YtkoepgogaojgmaaDoorL1
set_option linter.unusedVariables false
set_option linter.unusedSimpArgs false
set_option maxRecDepth 100000
namespace Go.Sim.M
open Go.RowKit Go.Proofs
theorem awake_x : XF Tryd.prog (Env.deep Tryd.prog E0 8) Tryd.f20 (Tryd.f20.body.getD .skip) [] = some (.bool true) := by kernel_rfl
def awake_o : List AV → Option (Bool × AV)
  | [] => some (true, .bool true)
  | _ => none
theorem awake_c : OcOk Tryd.prog ITryd 20 awake_o := fun xs r h => by
  unfold awake_o at h; split at h
  · simp only [Option.some.injEq, Prod.mk.injEq, true_and] at h; subst h
    exact good_XF mxTryd (inv0Ok _) (orcOk_deep mxTryd (inv0Ok _) E0_ok (fun _ _ _ => rfl) 8) Tryd.func20 rfl (by kernel_rfl) (loOk_none fun _ _ _ => rfl) awake_x
  · simp at h
def E1a : Env := E1.with 20 awake_o
theorem E1a_ok : OrcOk Tryd.prog ITryd E1a := E1_ok.with awake_c
end Go.Sim.M
