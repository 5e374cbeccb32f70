/- Functions of the program, as the executor found them: printed by program, checked by the kernel. -/
import Derived.Test.YtkoepgogaojgmaaDoorL5
set_option linter.unusedVariables false
set_option linter.unusedSimpArgs false
set_option maxRecDepth 100000
namespace Go.Sim.M
open Go.RowKit Go.Proofs

/- 1 nodes -/
def value_Compare (a_k : Int) (a_i : Int) (a_t : List UInt8) (b_k : Int) (b_i : Int) (b_t : List UInt8) : Int := (Go.Sim.M.cmp_Or_int3 (Go.Sim.M.cmp_Compare_int a_k b_k) (Go.Sim.M.cmp_Compare_int a_i b_i) (Go.Lib.compareBytes a_t b_t))
theorem value_Compare_x (a_k : Int) (a_i : Int) (a_t : List UInt8) (b_k : Int) (b_i : Int) (b_t : List UInt8) : XF Tryd.prog E5 Tryd.f25 (Tryd.f25.body.getD .skip) [AV.agg [AV.int IntKind.i64 a_k, AV.int IntKind.i64 a_i, AV.str a_t], AV.agg [AV.int IntKind.i64 b_k, AV.int IntKind.i64 b_i, AV.str b_t]] = some (.int .i64 (value_Compare a_k a_i a_t b_k b_i b_t)) :=
  (show _ = some (AV.int IntKind.i64 (Go.Sim.M.cmp_Or_int3 (Go.Sim.M.cmp_Compare_int a_k b_k) (Go.Sim.M.cmp_Compare_int a_i b_i) (Go.Lib.compareBytes a_t b_t))) by kernel_rfl).trans (by unfold value_Compare; repeat' (first | rfl | refine br_map (f := fun (p : Int) => some (.int .i64 p : AV)) ?_ ?_))
def value_Compare_o : List AV → Option (Bool × AV)
  | [AV.agg [AV.int IntKind.i64 a_k, AV.int IntKind.i64 a_i, AV.str a_t], AV.agg [AV.int IntKind.i64 b_k, AV.int IntKind.i64 b_i, AV.str b_t]] => some (true, .int .i64 (value_Compare a_k a_i a_t b_k b_i b_t))
  | _ => none
theorem value_Compare_c : OcOk Tryd.prog ITryd 25 value_Compare_o := fun xs r h => by
  unfold value_Compare_o at h; split at h
  · simp only [Option.some.injEq, Prod.mk.injEq, true_and] at h; subst h
    exact good_XF mxTryd (inv0Ok _) E5_ok Tryd.func25 rfl (by kernel_rfl) (by first | exact E5_lk | exact loOk_none fun _ _ _ => rfl) (value_Compare_x ..)
  · simp at h

/- 5 nodes -/
def ref07_Compare (a_k : Int) (a_i : Int) (a_t : List UInt8) (b_k : Int) (b_i : Int) (b_t : List UInt8) : Int := (br (a_k != b_k) (Go.Sim.M.ref07_sign (decide (a_k < b_k)) (decide (a_k > b_k))) (br (a_i != b_i) (Go.Sim.M.ref07_sign (decide (a_i < b_i)) (decide (a_i > b_i))) (Go.Sim.M.ref07_sign (Go.Op.bytesLess a_t b_t) !(Go.Op.bytesLess a_t b_t || a_t == b_t))))
theorem ref07_Compare_x (a_k : Int) (a_i : Int) (a_t : List UInt8) (b_k : Int) (b_i : Int) (b_t : List UInt8) : XF Tryd.prog E5 Tryd.f26 (Tryd.f26.body.getD .skip) [AV.agg [AV.int IntKind.i64 a_k, AV.int IntKind.i64 a_i, AV.str a_t], AV.agg [AV.int IntKind.i64 b_k, AV.int IntKind.i64 b_i, AV.str b_t]] = some (.int .i64 (ref07_Compare a_k a_i a_t b_k b_i b_t)) :=
  (show _ = br (a_k != b_k) (some (AV.int IntKind.i64 (Go.Sim.M.ref07_sign (decide (a_k < b_k)) (decide (a_k > b_k))))) (br (a_i != b_i) (some (AV.int IntKind.i64 (Go.Sim.M.ref07_sign (decide (a_i < b_i)) (decide (a_i > b_i))))) (some (AV.int IntKind.i64 (Go.Sim.M.ref07_sign (Go.Op.bytesLess a_t b_t) !(Go.Op.bytesLess a_t b_t || a_t == b_t))))) by kernel_rfl).trans (by unfold ref07_Compare; repeat' (first | rfl | refine br_map (f := fun (p : Int) => some (.int .i64 p : AV)) ?_ ?_))
def ref07_Compare_o : List AV → Option (Bool × AV)
  | [AV.agg [AV.int IntKind.i64 a_k, AV.int IntKind.i64 a_i, AV.str a_t], AV.agg [AV.int IntKind.i64 b_k, AV.int IntKind.i64 b_i, AV.str b_t]] => some (true, .int .i64 (ref07_Compare a_k a_i a_t b_k b_i b_t))
  | _ => none
theorem ref07_Compare_c : OcOk Tryd.prog ITryd 26 ref07_Compare_o := fun xs r h => by
  unfold ref07_Compare_o at h; split at h
  · simp only [Option.some.injEq, Prod.mk.injEq, true_and] at h; subst h
    exact good_XF mxTryd (inv0Ok _) E5_ok Tryd.func26 rfl (by kernel_rfl) (by first | exact E5_lk | exact loOk_none fun _ _ _ => rfl) (ref07_Compare_x ..)
  · simp at h


def E6 : Env := ((E5.with 25 value_Compare_o).with 26 ref07_Compare_o)
theorem E6_ok : OrcOk Tryd.prog ITryd E6 := ((E5_ok.with value_Compare_c).with ref07_Compare_c)
end Go.Sim.M
