/- Functions of the program, as the executor found them: printed by program, checked by the kernel. -/
import Derived.Test.YtkoepgogaojgmaaDoorL3
set_option linter.unusedVariables false
set_option linter.unusedSimpArgs false
set_option maxRecDepth 100000
namespace Go.Sim.M
open Go.RowKit Go.Proofs

/- 11 nodes -/
def cmp_Compare_int (x : Int) (y : Int) : Int := (br (Go.Sim.M.cmp_isNaN_int x) (br (Go.Sim.M.cmp_isNaN_int y) ((0 : Int)) ((-1 : Int))) (br (Go.Sim.M.cmp_isNaN_int y) ((1 : Int)) (br (decide (x < y)) ((-1 : Int)) (br (decide (x > y)) ((1 : Int)) ((0 : Int))))))
theorem cmp_Compare_int_x (x : Int) (y : Int) : XF Tryd.prog E3 Tryd.f55 (Tryd.f55.body.getD .skip) [AV.int IntKind.i64 x, AV.int IntKind.i64 y] = some (.int .i64 (cmp_Compare_int x y)) :=
  (show _ = br (Go.Sim.M.cmp_isNaN_int x) (br (Go.Sim.M.cmp_isNaN_int y) (some (AV.int IntKind.i64 (0 : Int))) (some (AV.int IntKind.i64 (-1 : Int)))) (br (Go.Sim.M.cmp_isNaN_int y) (some (AV.int IntKind.i64 (1 : Int))) (br (decide (x < y)) (some (AV.int IntKind.i64 (-1 : Int))) (br (decide (x > y)) (some (AV.int IntKind.i64 (1 : Int))) (some (AV.int IntKind.i64 (0 : Int)))))) by kernel_rfl).trans (by unfold cmp_Compare_int; repeat' (first | rfl | refine br_map (f := fun (p : Int) => some (.int .i64 p : AV)) ?_ ?_))
def cmp_Compare_int_o : List AV → Option (Bool × AV)
  | [AV.int IntKind.i64 x, AV.int IntKind.i64 y] => some (true, .int .i64 (cmp_Compare_int x y))
  | _ => none
theorem cmp_Compare_int_c : OcOk Tryd.prog ITryd 55 cmp_Compare_int_o := fun xs r h => by
  unfold cmp_Compare_int_o at h; split at h
  · simp only [Option.some.injEq, Prod.mk.injEq, true_and] at h; subst h
    exact good_XF mxTryd (inv0Ok _) E3_ok Tryd.func55 rfl (by kernel_rfl) (by first | exact E3_lk | exact loOk_none fun _ _ _ => rfl) (cmp_Compare_int_x ..)
  · simp at h


def E5 : Env := (E3.with 55 cmp_Compare_int_o)
theorem E5_ok : OrcOk Tryd.prog ITryd E5 := (E3_ok.with cmp_Compare_int_c)
end Go.Sim.M
