/- Functions of the program, as the executor found them: printed by program, checked by the kernel. -/
import Derived.Test.YtkoepgogaojgmaaDoorL3
set_option linter.unusedVariables false
set_option linter.unusedSimpArgs false
set_option maxRecDepth 100000
namespace Go.Sim.M
open Go.RowKit Go.Proofs

/- 11 nodes -/
def law07_ValueAlgebra (a : Int) (b : Int) (c : Int) : Bool := (br (Go.Sim.M.value_And a b == Go.Sim.M.value_And b a) (br (Go.Sim.M.value_Or a b == Go.Sim.M.value_Or b a) (br (Go.Sim.M.value_And a (Go.Sim.M.value_And b c) == Go.Sim.M.value_And (Go.Sim.M.value_And a b) c) (br (Go.Sim.M.value_Or a (Go.Sim.M.value_Or b c) == Go.Sim.M.value_Or (Go.Sim.M.value_Or a b) c) (br (Go.Sim.M.value_Not (Go.Sim.M.value_And a b) == Go.Sim.M.value_Or (Go.Sim.M.value_Not a) (Go.Sim.M.value_Not b)) (true) (false)) (false)) (false)) (false)) (false))
theorem law07_ValueAlgebra_x (a : Int) (b : Int) (c : Int) : XF Tryd.prog E3 Tryd.f8 (Tryd.f8.body.getD .skip) [AV.int IntKind.i64 a, AV.int IntKind.i64 b, AV.int IntKind.i64 c] = some (.bool (law07_ValueAlgebra a b c)) :=
  (show _ = br (Go.Sim.M.value_And a b == Go.Sim.M.value_And b a) (br (Go.Sim.M.value_Or a b == Go.Sim.M.value_Or b a) (br (Go.Sim.M.value_And a (Go.Sim.M.value_And b c) == Go.Sim.M.value_And (Go.Sim.M.value_And a b) c) (br (Go.Sim.M.value_Or a (Go.Sim.M.value_Or b c) == Go.Sim.M.value_Or (Go.Sim.M.value_Or a b) c) (br (Go.Sim.M.value_Not (Go.Sim.M.value_And a b) == Go.Sim.M.value_Or (Go.Sim.M.value_Not a) (Go.Sim.M.value_Not b)) (some (AV.bool true)) (some (AV.bool false))) (some (AV.bool false))) (some (AV.bool false))) (some (AV.bool false))) (some (AV.bool false)) by kernel_rfl).trans (by unfold law07_ValueAlgebra; repeat' (first | rfl | refine br_map (f := fun (p : Bool) => some (.bool p : AV)) ?_ ?_))
def law07_ValueAlgebra_o : List AV → Option (Bool × AV)
  | [AV.int IntKind.i64 a, AV.int IntKind.i64 b, AV.int IntKind.i64 c] => some (true, .bool (law07_ValueAlgebra a b c))
  | _ => none
theorem law07_ValueAlgebra_c : OcOk Tryd.prog ITryd 8 law07_ValueAlgebra_o := fun xs r h => by
  unfold law07_ValueAlgebra_o at h; split at h
  · simp only [Option.some.injEq, Prod.mk.injEq, true_and] at h; subst h
    exact good_XF mxTryd (inv0Ok _) E3_ok Tryd.func8 rfl (by kernel_rfl) (loOk_none fun _ _ _ => rfl) (law07_ValueAlgebra_x ..)
  · simp at h

/- 11 nodes -/
def law07_ValueLogic (a : Int) (b : Int) (v_k : Int) (v_i : Int) (v_t : List UInt8) : Bool := (br (Go.Sim.M.value_Not a == Go.Sim.M.ref07_Not a) (br (Go.Sim.M.value_And a b == Go.Sim.M.ref07_And a b) (br (Go.Sim.M.value_Or a b == Go.Sim.M.ref07_Or a b) (br (Go.Sim.M.value_Truth v_k v_i v_t == Go.Sim.M.ref07_Truth v_k v_i v_t) (br ((Go.Sim.M.value_Of a).fst == (Go.Sim.M.ref07_Of a).fst && ((Go.Sim.M.value_Of a).snd.fst == (Go.Sim.M.ref07_Of a).snd.fst && ((Go.Sim.M.value_Of a).snd.snd == (Go.Sim.M.ref07_Of a).snd.snd && true))) (true) (false)) (false)) (false)) (false)) (false))
theorem law07_ValueLogic_x (a : Int) (b : Int) (v_k : Int) (v_i : Int) (v_t : List UInt8) : XF Tryd.prog E3 Tryd.f9 (Tryd.f9.body.getD .skip) [AV.int IntKind.i64 a, AV.int IntKind.i64 b, AV.agg [AV.int IntKind.i64 v_k, AV.int IntKind.i64 v_i, AV.str v_t]] = some (.bool (law07_ValueLogic a b v_k v_i v_t)) :=
  (show _ = br (Go.Sim.M.value_Not a == Go.Sim.M.ref07_Not a) (br (Go.Sim.M.value_And a b == Go.Sim.M.ref07_And a b) (br (Go.Sim.M.value_Or a b == Go.Sim.M.ref07_Or a b) (br (Go.Sim.M.value_Truth v_k v_i v_t == Go.Sim.M.ref07_Truth v_k v_i v_t) (br ((Go.Sim.M.value_Of a).fst == (Go.Sim.M.ref07_Of a).fst && ((Go.Sim.M.value_Of a).snd.fst == (Go.Sim.M.ref07_Of a).snd.fst && ((Go.Sim.M.value_Of a).snd.snd == (Go.Sim.M.ref07_Of a).snd.snd && true))) (some (AV.bool true)) (some (AV.bool false))) (some (AV.bool false))) (some (AV.bool false))) (some (AV.bool false))) (some (AV.bool false)) by kernel_rfl).trans (by unfold law07_ValueLogic; repeat' (first | rfl | refine br_map (f := fun (p : Bool) => some (.bool p : AV)) ?_ ?_))
def law07_ValueLogic_o : List AV → Option (Bool × AV)
  | [AV.int IntKind.i64 a, AV.int IntKind.i64 b, AV.agg [AV.int IntKind.i64 v_k, AV.int IntKind.i64 v_i, AV.str v_t]] => some (true, .bool (law07_ValueLogic a b v_k v_i v_t))
  | _ => none
theorem law07_ValueLogic_c : OcOk Tryd.prog ITryd 9 law07_ValueLogic_o := fun xs r h => by
  unfold law07_ValueLogic_o at h; split at h
  · simp only [Option.some.injEq, Prod.mk.injEq, true_and] at h; subst h
    exact good_XF mxTryd (inv0Ok _) E3_ok Tryd.func9 rfl (by kernel_rfl) (loOk_none fun _ _ _ => rfl) (law07_ValueLogic_x ..)
  · simp at h


def E4 : Env := ((E3.with 8 law07_ValueAlgebra_o).with 9 law07_ValueLogic_o)
theorem E4_ok : OrcOk Tryd.prog ITryd E4 := ((E3_ok.with law07_ValueAlgebra_c).with law07_ValueLogic_c)
end Go.Sim.M
