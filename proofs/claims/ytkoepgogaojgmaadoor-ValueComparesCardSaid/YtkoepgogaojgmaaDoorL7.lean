/- Functions of the program, as the executor found them: printed by program, checked by the kernel. -/
import Derived.Test.YtkoepgogaojgmaaDoorL6
set_option linter.unusedVariables false
set_option linter.unusedSimpArgs false
set_option maxRecDepth 100000
namespace Go.Sim.M
open Go.RowKit Go.Proofs

/- 1 nodes -/
def value_Equal (a_k : Int) (a_i : Int) (a_t : List UInt8) (b_k : Int) (b_i : Int) (b_t : List UInt8) : Int := (Go.Sim.M.value_decide a_k a_i a_t b_k b_i b_t (Go.Sim.M.value_Compare a_k a_i a_t b_k b_i b_t == (0 : Int)))
theorem value_Equal_x (a_k : Int) (a_i : Int) (a_t : List UInt8) (b_k : Int) (b_i : Int) (b_t : List UInt8) : XF Tryd.prog E6 Tryd.f27 (Tryd.f27.body.getD .skip) [AV.agg [AV.int IntKind.i64 a_k, AV.int IntKind.i64 a_i, AV.str a_t], AV.agg [AV.int IntKind.i64 b_k, AV.int IntKind.i64 b_i, AV.str b_t]] = some (.int .i64 (value_Equal a_k a_i a_t b_k b_i b_t)) :=
  (show _ = some (AV.int IntKind.i64 (Go.Sim.M.value_decide a_k a_i a_t b_k b_i b_t (Go.Sim.M.value_Compare a_k a_i a_t b_k b_i b_t == (0 : Int)))) by kernel_rfl).trans (by unfold value_Equal; repeat' (first | rfl | refine br_map (f := fun (p : Int) => some (.int .i64 p : AV)) ?_ ?_))
def value_Equal_o : List AV → Option (Bool × AV)
  | [AV.agg [AV.int IntKind.i64 a_k, AV.int IntKind.i64 a_i, AV.str a_t], AV.agg [AV.int IntKind.i64 b_k, AV.int IntKind.i64 b_i, AV.str b_t]] => some (true, .int .i64 (value_Equal a_k a_i a_t b_k b_i b_t))
  | _ => none
theorem value_Equal_c : OcOk Tryd.prog ITryd 27 value_Equal_o := fun xs r h => by
  unfold value_Equal_o at h; split at h
  · simp only [Option.some.injEq, Prod.mk.injEq, true_and] at h; subst h
    exact good_XF mxTryd (inv0Ok _) E6_ok Tryd.func27 rfl (by kernel_rfl) (by first | exact E6_lk | exact loOk_none fun _ _ _ => rfl) (value_Equal_x ..)
  · simp at h

/- 1 nodes -/
def ref07_Equal (a_k : Int) (a_i : Int) (a_t : List UInt8) (b_k : Int) (b_i : Int) (b_t : List UInt8) : Int := (Go.Sim.M.ref07_truth a_k a_i a_t b_k b_i b_t (Go.Sim.M.ref07_Compare a_k a_i a_t b_k b_i b_t == (0 : Int)))
theorem ref07_Equal_x (a_k : Int) (a_i : Int) (a_t : List UInt8) (b_k : Int) (b_i : Int) (b_t : List UInt8) : XF Tryd.prog E6 Tryd.f28 (Tryd.f28.body.getD .skip) [AV.agg [AV.int IntKind.i64 a_k, AV.int IntKind.i64 a_i, AV.str a_t], AV.agg [AV.int IntKind.i64 b_k, AV.int IntKind.i64 b_i, AV.str b_t]] = some (.int .i64 (ref07_Equal a_k a_i a_t b_k b_i b_t)) :=
  (show _ = some (AV.int IntKind.i64 (Go.Sim.M.ref07_truth a_k a_i a_t b_k b_i b_t (Go.Sim.M.ref07_Compare a_k a_i a_t b_k b_i b_t == (0 : Int)))) by kernel_rfl).trans (by unfold ref07_Equal; repeat' (first | rfl | refine br_map (f := fun (p : Int) => some (.int .i64 p : AV)) ?_ ?_))
def ref07_Equal_o : List AV → Option (Bool × AV)
  | [AV.agg [AV.int IntKind.i64 a_k, AV.int IntKind.i64 a_i, AV.str a_t], AV.agg [AV.int IntKind.i64 b_k, AV.int IntKind.i64 b_i, AV.str b_t]] => some (true, .int .i64 (ref07_Equal a_k a_i a_t b_k b_i b_t))
  | _ => none
theorem ref07_Equal_c : OcOk Tryd.prog ITryd 28 ref07_Equal_o := fun xs r h => by
  unfold ref07_Equal_o at h; split at h
  · simp only [Option.some.injEq, Prod.mk.injEq, true_and] at h; subst h
    exact good_XF mxTryd (inv0Ok _) E6_ok Tryd.func28 rfl (by kernel_rfl) (by first | exact E6_lk | exact loOk_none fun _ _ _ => rfl) (ref07_Equal_x ..)
  · simp at h

/- 1 nodes -/
def value_Less (a_k : Int) (a_i : Int) (a_t : List UInt8) (b_k : Int) (b_i : Int) (b_t : List UInt8) : Int := (Go.Sim.M.value_decide a_k a_i a_t b_k b_i b_t (decide (Go.Sim.M.value_Compare a_k a_i a_t b_k b_i b_t < (0 : Int))))
theorem value_Less_x (a_k : Int) (a_i : Int) (a_t : List UInt8) (b_k : Int) (b_i : Int) (b_t : List UInt8) : XF Tryd.prog E6 Tryd.f29 (Tryd.f29.body.getD .skip) [AV.agg [AV.int IntKind.i64 a_k, AV.int IntKind.i64 a_i, AV.str a_t], AV.agg [AV.int IntKind.i64 b_k, AV.int IntKind.i64 b_i, AV.str b_t]] = some (.int .i64 (value_Less a_k a_i a_t b_k b_i b_t)) :=
  (show _ = some (AV.int IntKind.i64 (Go.Sim.M.value_decide a_k a_i a_t b_k b_i b_t (decide (Go.Sim.M.value_Compare a_k a_i a_t b_k b_i b_t < (0 : Int))))) by kernel_rfl).trans (by unfold value_Less; repeat' (first | rfl | refine br_map (f := fun (p : Int) => some (.int .i64 p : AV)) ?_ ?_))
def value_Less_o : List AV → Option (Bool × AV)
  | [AV.agg [AV.int IntKind.i64 a_k, AV.int IntKind.i64 a_i, AV.str a_t], AV.agg [AV.int IntKind.i64 b_k, AV.int IntKind.i64 b_i, AV.str b_t]] => some (true, .int .i64 (value_Less a_k a_i a_t b_k b_i b_t))
  | _ => none
theorem value_Less_c : OcOk Tryd.prog ITryd 29 value_Less_o := fun xs r h => by
  unfold value_Less_o at h; split at h
  · simp only [Option.some.injEq, Prod.mk.injEq, true_and] at h; subst h
    exact good_XF mxTryd (inv0Ok _) E6_ok Tryd.func29 rfl (by kernel_rfl) (by first | exact E6_lk | exact loOk_none fun _ _ _ => rfl) (value_Less_x ..)
  · simp at h

/- 1 nodes -/
def ref07_Less (a_k : Int) (a_i : Int) (a_t : List UInt8) (b_k : Int) (b_i : Int) (b_t : List UInt8) : Int := (Go.Sim.M.ref07_truth a_k a_i a_t b_k b_i b_t (decide (Go.Sim.M.ref07_Compare a_k a_i a_t b_k b_i b_t < (0 : Int))))
theorem ref07_Less_x (a_k : Int) (a_i : Int) (a_t : List UInt8) (b_k : Int) (b_i : Int) (b_t : List UInt8) : XF Tryd.prog E6 Tryd.f30 (Tryd.f30.body.getD .skip) [AV.agg [AV.int IntKind.i64 a_k, AV.int IntKind.i64 a_i, AV.str a_t], AV.agg [AV.int IntKind.i64 b_k, AV.int IntKind.i64 b_i, AV.str b_t]] = some (.int .i64 (ref07_Less a_k a_i a_t b_k b_i b_t)) :=
  (show _ = some (AV.int IntKind.i64 (Go.Sim.M.ref07_truth a_k a_i a_t b_k b_i b_t (decide (Go.Sim.M.ref07_Compare a_k a_i a_t b_k b_i b_t < (0 : Int))))) by kernel_rfl).trans (by unfold ref07_Less; repeat' (first | rfl | refine br_map (f := fun (p : Int) => some (.int .i64 p : AV)) ?_ ?_))
def ref07_Less_o : List AV → Option (Bool × AV)
  | [AV.agg [AV.int IntKind.i64 a_k, AV.int IntKind.i64 a_i, AV.str a_t], AV.agg [AV.int IntKind.i64 b_k, AV.int IntKind.i64 b_i, AV.str b_t]] => some (true, .int .i64 (ref07_Less a_k a_i a_t b_k b_i b_t))
  | _ => none
theorem ref07_Less_c : OcOk Tryd.prog ITryd 30 ref07_Less_o := fun xs r h => by
  unfold ref07_Less_o at h; split at h
  · simp only [Option.some.injEq, Prod.mk.injEq, true_and] at h; subst h
    exact good_XF mxTryd (inv0Ok _) E6_ok Tryd.func30 rfl (by kernel_rfl) (by first | exact E6_lk | exact loOk_none fun _ _ _ => rfl) (ref07_Less_x ..)
  · simp at h


def E7 : Env := ((((E6.with 27 value_Equal_o).with 28 ref07_Equal_o).with 29 value_Less_o).with 30 ref07_Less_o)
theorem E7_ok : OrcOk Tryd.prog ITryd E7 := ((((E6_ok.with value_Equal_c).with ref07_Equal_c).with value_Less_c).with ref07_Less_c)
end Go.Sim.M
