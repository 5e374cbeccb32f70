/- Functions of the program, as the executor found them: printed by program, checked by the kernel. -/
import Derived.Test.YtkoepgogaojgmaaDoorL9
set_option linter.unusedVariables false
set_option linter.unusedSimpArgs false
set_option maxRecDepth 100000
namespace Go.Sim.M
open Go.RowKit Go.Proofs

/- 25 nodes -/
def value_Valid (v_k : Int) (v_i : Int) (v_t : List UInt8) : Bool := (br (v_k == (0 : Int)) (br (v_i == (0 : Int)) (v_t == []) (false)) (br (v_k == (1 : Int)) (br (v_t == []) (br (decide (v_i ≥ (-1125899906842624 : Int))) (decide (v_i ≤ (1125899906842624 : Int))) (false)) (false)) (br (v_k == (2 : Int)) (br (v_i == (0 : Int)) (br (decide ((↑v_t.length : Int) ≤ (200 : Int))) (br (Go.Sim.M.value_printable_pre v_t) (Go.Sim.M.value_printable v_t) (false)) (false)) (false)) (br (v_k == (3 : Int)) (br (v_t == []) (br (v_i == (0 : Int)) (true) (v_i == (1 : Int))) (false)) (false)))))
def value_Valid_pre (v_k : Int) (v_i : Int) (v_t : List UInt8) : Bool := br (v_k == (0 : Int)) (br (v_i == (0 : Int)) (true) (true)) (br (v_k == (1 : Int)) (br (v_t == []) (br (decide (v_i ≥ (-1125899906842624 : Int))) (true) (true)) (true)) (br (v_k == (2 : Int)) (br (v_i == (0 : Int)) (br (decide ((↑v_t.length : Int) ≤ (200 : Int))) (br (Go.Sim.M.value_printable_pre v_t) (true) (false)) (true)) (true)) (br (v_k == (3 : Int)) (br (v_t == []) (br (v_i == (0 : Int)) (true) (true)) (true)) (true))))
theorem value_Valid_x (v_k : Int) (v_i : Int) (v_t : List UInt8) : XF Tryd.prog E9 Tryd.f10 (Tryd.f10.body.getD .skip) [AV.agg [AV.int IntKind.i64 v_k, AV.int IntKind.i64 v_i, AV.str v_t]] = br (value_Valid_pre v_k v_i v_t) (some (.bool (value_Valid v_k v_i v_t))) none :=
  (show _ = br (v_k == (0 : Int)) (br (v_i == (0 : Int)) (some (AV.bool (v_t == []))) (some (AV.bool false))) (br (v_k == (1 : Int)) (br (v_t == []) (br (decide (v_i ≥ (-1125899906842624 : Int))) (some (AV.bool (decide (v_i ≤ (1125899906842624 : Int))))) (some (AV.bool false))) (some (AV.bool false))) (br (v_k == (2 : Int)) (br (v_i == (0 : Int)) (br (decide ((↑v_t.length : Int) ≤ (200 : Int))) (br (Go.Sim.M.value_printable_pre v_t) (some (AV.bool (Go.Sim.M.value_printable v_t))) none) (some (AV.bool false))) (some (AV.bool false))) (br (v_k == (3 : Int)) (br (v_t == []) (br (v_i == (0 : Int)) (some (AV.bool true)) (some (AV.bool (v_i == (1 : Int))))) (some (AV.bool false))) (some (AV.bool false))))) by kernel_rfl).trans (by unfold value_Valid value_Valid_pre; repeat' (first | rfl | refine br_opt (F := fun (p : Bool) => (.bool p : AV)) ?_ ?_))
def value_Valid_o : List AV → Option (Bool × AV)
  | [AV.agg [AV.int IntKind.i64 v_k, AV.int IntKind.i64 v_i, AV.str v_t]] => some (value_Valid_pre v_k v_i v_t, .bool (value_Valid v_k v_i v_t))
  | _ => none
theorem value_Valid_c : OcOk Tryd.prog ITryd 10 value_Valid_o := fun xs r h => by
  unfold value_Valid_o at h; split at h
  · simp only [Option.some.injEq, Prod.mk.injEq] at h; obtain ⟨h1, rfl⟩ := h
    exact good_XF mxTryd (inv0Ok _) E9_ok Tryd.func10 rfl (by kernel_rfl) (by first | exact E9_lk | exact loOk_none fun _ _ _ => rfl) ((value_Valid_x ..).trans (by rw [h1]; rfl))
  · simp at h

/- 25 nodes -/
def ref07_Valid (v_k : Int) (v_i : Int) (v_t : List UInt8) : Bool := (br (v_k == (0 : Int)) (br (v_i == (0 : Int)) (v_t == []) (false)) (br (v_k == (1 : Int)) (br (v_t == []) (br (decide (v_i ≥ (-1125899906842624 : Int))) (decide (v_i ≤ (1125899906842624 : Int))) (false)) (false)) (br (v_k == (2 : Int)) (br (v_i == (0 : Int)) (br (decide ((↑v_t.length : Int) ≤ (200 : Int))) (br (Go.Sim.M.ref07_Printable_pre v_t) (Go.Sim.M.ref07_Printable v_t) (false)) (false)) (false)) (br (v_k == (3 : Int)) (br (v_t == []) (br (v_i == (0 : Int)) (true) (v_i == (1 : Int))) (false)) (false)))))
def ref07_Valid_pre (v_k : Int) (v_i : Int) (v_t : List UInt8) : Bool := br (v_k == (0 : Int)) (br (v_i == (0 : Int)) (true) (true)) (br (v_k == (1 : Int)) (br (v_t == []) (br (decide (v_i ≥ (-1125899906842624 : Int))) (true) (true)) (true)) (br (v_k == (2 : Int)) (br (v_i == (0 : Int)) (br (decide ((↑v_t.length : Int) ≤ (200 : Int))) (br (Go.Sim.M.ref07_Printable_pre v_t) (true) (false)) (true)) (true)) (br (v_k == (3 : Int)) (br (v_t == []) (br (v_i == (0 : Int)) (true) (true)) (true)) (true))))
theorem ref07_Valid_x (v_k : Int) (v_i : Int) (v_t : List UInt8) : XF Tryd.prog E9 Tryd.f11 (Tryd.f11.body.getD .skip) [AV.agg [AV.int IntKind.i64 v_k, AV.int IntKind.i64 v_i, AV.str v_t]] = br (ref07_Valid_pre v_k v_i v_t) (some (.bool (ref07_Valid v_k v_i v_t))) none :=
  (show _ = br (v_k == (0 : Int)) (br (v_i == (0 : Int)) (some (AV.bool (v_t == []))) (some (AV.bool false))) (br (v_k == (1 : Int)) (br (v_t == []) (br (decide (v_i ≥ (-1125899906842624 : Int))) (some (AV.bool (decide (v_i ≤ (1125899906842624 : Int))))) (some (AV.bool false))) (some (AV.bool false))) (br (v_k == (2 : Int)) (br (v_i == (0 : Int)) (br (decide ((↑v_t.length : Int) ≤ (200 : Int))) (br (Go.Sim.M.ref07_Printable_pre v_t) (some (AV.bool (Go.Sim.M.ref07_Printable v_t))) none) (some (AV.bool false))) (some (AV.bool false))) (br (v_k == (3 : Int)) (br (v_t == []) (br (v_i == (0 : Int)) (some (AV.bool true)) (some (AV.bool (v_i == (1 : Int))))) (some (AV.bool false))) (some (AV.bool false))))) by kernel_rfl).trans (by unfold ref07_Valid ref07_Valid_pre; repeat' (first | rfl | refine br_opt (F := fun (p : Bool) => (.bool p : AV)) ?_ ?_))
def ref07_Valid_o : List AV → Option (Bool × AV)
  | [AV.agg [AV.int IntKind.i64 v_k, AV.int IntKind.i64 v_i, AV.str v_t]] => some (ref07_Valid_pre v_k v_i v_t, .bool (ref07_Valid v_k v_i v_t))
  | _ => none
theorem ref07_Valid_c : OcOk Tryd.prog ITryd 11 ref07_Valid_o := fun xs r h => by
  unfold ref07_Valid_o at h; split at h
  · simp only [Option.some.injEq, Prod.mk.injEq] at h; obtain ⟨h1, rfl⟩ := h
    exact good_XF mxTryd (inv0Ok _) E9_ok Tryd.func11 rfl (by kernel_rfl) (by first | exact E9_lk | exact loOk_none fun _ _ _ => rfl) ((ref07_Valid_x ..).trans (by rw [h1]; rfl))
  · simp at h


def E10 : Env := ((E9.with 10 value_Valid_o).with 11 ref07_Valid_o)
theorem E10_ok : OrcOk Tryd.prog ITryd E10 := ((E9_ok.with value_Valid_c).with ref07_Valid_c)
end Go.Sim.M
