/- Functions of the program, as the executor found them: printed by program, checked by the kernel. -/
import Derived.Test.YtkoepgogaojgmaaDoorL2
set_option linter.unusedVariables false
set_option linter.unusedSimpArgs false
set_option maxRecDepth 100000
namespace Go.Sim.M
open Go.RowKit Go.Proofs

/- 1 nodes -/
def value_And (a : Int) (b : Int) : Int := (Go.Sim.M.value_least2 a b)
theorem value_And_x (a : Int) (b : Int) : XF Tryd.prog E2 Tryd.f31 (Tryd.f31.body.getD .skip) [AV.int IntKind.i64 a, AV.int IntKind.i64 b] = some (.int .i64 (value_And a b)) :=
  (show _ = some (AV.int IntKind.i64 (Go.Sim.M.value_least2 a b)) by kernel_rfl).trans (by unfold value_And; repeat' (first | rfl | refine br_map (f := fun (p : Int) => some (.int .i64 p : AV)) ?_ ?_))
def value_And_o : List AV → Option (Bool × AV)
  | [AV.int IntKind.i64 a, AV.int IntKind.i64 b] => some (true, .int .i64 (value_And a b))
  | _ => none
theorem value_And_c : OcOk Tryd.prog ITryd 31 value_And_o := fun xs r h => by
  unfold value_And_o at h; split at h
  · simp only [Option.some.injEq, Prod.mk.injEq, true_and] at h; subst h
    exact good_XF mxTryd (inv0Ok _) E2_ok Tryd.func31 rfl (by kernel_rfl) (loOk_none fun _ _ _ => rfl) (value_And_x ..)
  · simp at h

/- 1 nodes -/
def value_Or (a : Int) (b : Int) : Int := (Go.Sim.M.value_Not (Go.Sim.M.value_least2 (Go.Sim.M.value_Not a) (Go.Sim.M.value_Not b)))
theorem value_Or_x (a : Int) (b : Int) : XF Tryd.prog E2 Tryd.f32 (Tryd.f32.body.getD .skip) [AV.int IntKind.i64 a, AV.int IntKind.i64 b] = some (.int .i64 (value_Or a b)) :=
  (show _ = some (AV.int IntKind.i64 (Go.Sim.M.value_Not (Go.Sim.M.value_least2 (Go.Sim.M.value_Not a) (Go.Sim.M.value_Not b)))) by kernel_rfl).trans (by unfold value_Or; repeat' (first | rfl | refine br_map (f := fun (p : Int) => some (.int .i64 p : AV)) ?_ ?_))
def value_Or_o : List AV → Option (Bool × AV)
  | [AV.int IntKind.i64 a, AV.int IntKind.i64 b] => some (true, .int .i64 (value_Or a b))
  | _ => none
theorem value_Or_c : OcOk Tryd.prog ITryd 32 value_Or_o := fun xs r h => by
  unfold value_Or_o at h; split at h
  · simp only [Option.some.injEq, Prod.mk.injEq, true_and] at h; subst h
    exact good_XF mxTryd (inv0Ok _) E2_ok Tryd.func32 rfl (by kernel_rfl) (loOk_none fun _ _ _ => rfl) (value_Or_x ..)
  · simp at h


def E3 : Env := ((E2.with 31 value_And_o).with 32 value_Or_o)
theorem E3_ok : OrcOk Tryd.prog ITryd E3 := ((E2_ok.with value_And_c).with value_Or_c)
end Go.Sim.M
