/- Functions of the program, as the executor found them: printed by program, checked by the kernel. -/
import Derived.Test.YtkoepgogaojgmaaDoorLoopP
import Derived.Test.YtkoepgogaojgmaaDoorL3
set_option linter.unusedVariables false
set_option linter.unusedSimpArgs false
set_option maxRecDepth 100000
namespace Go.Sim.M
open Go.RowKit Go.Proofs

/- 5 nodes -/
def value_printable (s : List UInt8) : Bool := (br ((↑s.length : Int) == (↑s.length : Int) && decide (s.length ≤ (4611686018427387904 : Nat))) (br ((List.drop (0 : Nat) s).all Go.Sim.M.okb) (true) (false)) (false))
def value_printable_pre (s : List UInt8) : Bool := br ((↑s.length : Int) == (↑s.length : Int) && decide (s.length ≤ (4611686018427387904 : Nat))) (br ((List.drop (0 : Nat) s).all Go.Sim.M.okb) (true) (true)) (false)
theorem value_printable_x (s : List UInt8) : XF Tryd.prog E1p Tryd.f41 (Tryd.f41.body.getD .skip) [AV.str s] = br (value_printable_pre s) (some (.bool (value_printable s))) none :=
  (show _ = br ((↑s.length : Int) == (↑s.length : Int) && decide (s.length ≤ (4611686018427387904 : Nat))) (br ((List.drop (0 : Nat) s).all Go.Sim.M.okb) (some (AV.bool true)) (some (AV.bool false))) none by kernel_rfl).trans (by unfold value_printable value_printable_pre; repeat' (first | rfl | refine br_opt (F := fun (p : Bool) => (.bool p : AV)) ?_ ?_))
def value_printable_o : List AV → Option (Bool × AV)
  | [AV.str s] => some (value_printable_pre s, .bool (value_printable s))
  | _ => none
theorem value_printable_c : OcOk Tryd.prog ITryd 41 value_printable_o := fun xs r h => by
  unfold value_printable_o at h; split at h
  · simp only [Option.some.injEq, Prod.mk.injEq] at h; obtain ⟨h1, rfl⟩ := h
    exact good_XF mxTryd (inv0Ok _) E1p_ok Tryd.func41 rfl (by kernel_rfl) (by first | exact E1p_lk | exact loOk_none fun _ _ _ => rfl) ((value_printable_x ..).trans (by rw [h1]; rfl))
  · simp at h

/- 5 nodes -/
def ref07_Printable (s : List UInt8) : Bool := (br (decide (s.length ≤ (4611686018427387904 : Nat))) (br ((List.drop (0 : Nat) s).all Go.Sim.M.okb) (true) (false)) (false))
def ref07_Printable_pre (s : List UInt8) : Bool := br (decide (s.length ≤ (4611686018427387904 : Nat))) (br ((List.drop (0 : Nat) s).all Go.Sim.M.okb) (true) (true)) (false)
theorem ref07_Printable_x (s : List UInt8) : XF Tryd.prog E1q Tryd.f42 (Tryd.f42.body.getD .skip) [AV.str s] = br (ref07_Printable_pre s) (some (.bool (ref07_Printable s))) none :=
  (show _ = br (decide (s.length ≤ (4611686018427387904 : Nat))) (br ((List.drop (0 : Nat) s).all Go.Sim.M.okb) (some (AV.bool true)) (some (AV.bool false))) none by kernel_rfl).trans (by unfold ref07_Printable ref07_Printable_pre; repeat' (first | rfl | refine br_opt (F := fun (p : Bool) => (.bool p : AV)) ?_ ?_))
def ref07_Printable_o : List AV → Option (Bool × AV)
  | [AV.str s] => some (ref07_Printable_pre s, .bool (ref07_Printable s))
  | _ => none
theorem ref07_Printable_c : OcOk Tryd.prog ITryd 42 ref07_Printable_o := fun xs r h => by
  unfold ref07_Printable_o at h; split at h
  · simp only [Option.some.injEq, Prod.mk.injEq] at h; obtain ⟨h1, rfl⟩ := h
    exact good_XF mxTryd (inv0Ok _) E1q_ok Tryd.func42 rfl (by kernel_rfl) (by first | exact E1q_lk | exact loOk_none fun _ _ _ => rfl) ((ref07_Printable_x ..).trans (by rw [h1]; rfl))
  · simp at h


def E9 : Env := ((E3.with 41 value_printable_o).with 42 ref07_Printable_o)
theorem E9_ok : OrcOk Tryd.prog ITryd E9 := ((E3_ok.with value_printable_c).with ref07_Printable_c)
end Go.Sim.M
