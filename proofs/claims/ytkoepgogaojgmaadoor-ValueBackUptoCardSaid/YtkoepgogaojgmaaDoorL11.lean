/- Functions of the program, as the executor found them: printed by program, checked by the kernel. -/
import Derived.Test.YtkoepgogaojgmaaDoorL10
set_option linter.unusedVariables false
set_option linter.unusedSimpArgs false
set_option maxRecDepth 100000
namespace Go.Sim.M
open Go.RowKit Go.Proofs

/- 5 nodes -/
def value_orNull (v_k : Int) (v_i : Int) (v_t : List UInt8) : Int × Int × List UInt8 := (br (Go.Sim.M.value_Valid_pre v_k v_i v_t) (br (!Go.Sim.M.value_Valid v_k v_i v_t) ((0 : Int), (0 : Int), []) (v_k, v_i, v_t)) (0, 0, []))
def value_orNull_pre (v_k : Int) (v_i : Int) (v_t : List UInt8) : Bool := br (Go.Sim.M.value_Valid_pre v_k v_i v_t) (br (!Go.Sim.M.value_Valid v_k v_i v_t) (true) (true)) (false)
theorem value_orNull_x (v_k : Int) (v_i : Int) (v_t : List UInt8) : XF Tryd.prog E10 Tryd.f43 (Tryd.f43.body.getD .skip) [AV.agg [AV.int IntKind.i64 v_k, AV.int IntKind.i64 v_i, AV.str v_t]] = br (value_orNull_pre v_k v_i v_t) (some (.agg [.int .i64 (value_orNull v_k v_i v_t).1, .int .i64 (value_orNull v_k v_i v_t).2.1, .str (value_orNull v_k v_i v_t).2.2])) none :=
  (show _ = br (Go.Sim.M.value_Valid_pre v_k v_i v_t) (br (!Go.Sim.M.value_Valid v_k v_i v_t) (some (AV.agg [AV.int IntKind.i64 (0 : Int), AV.int IntKind.i64 (0 : Int), AV.str []])) (some (AV.agg [AV.int IntKind.i64 v_k, AV.int IntKind.i64 v_i, AV.str v_t]))) none by kernel_rfl).trans (by unfold value_orNull value_orNull_pre; repeat' (first | rfl | refine br_opt (F := fun (p : Int × Int × List UInt8) => (.agg [.int .i64 p.1, .int .i64 p.2.1, .str p.2.2] : AV)) ?_ ?_))
def value_orNull_o : List AV → Option (Bool × AV)
  | [AV.agg [AV.int IntKind.i64 v_k, AV.int IntKind.i64 v_i, AV.str v_t]] => some (value_orNull_pre v_k v_i v_t, .agg [.int .i64 (value_orNull v_k v_i v_t).1, .int .i64 (value_orNull v_k v_i v_t).2.1, .str (value_orNull v_k v_i v_t).2.2])
  | _ => none
theorem value_orNull_c : OcOk Tryd.prog ITryd 43 value_orNull_o := fun xs r h => by
  unfold value_orNull_o at h; split at h
  · simp only [Option.some.injEq, Prod.mk.injEq] at h; obtain ⟨h1, rfl⟩ := h
    exact good_XF mxTryd (inv0Ok _) E10_ok Tryd.func43 rfl (by kernel_rfl) (by first | exact E10_lk | exact loOk_none fun _ _ _ => rfl) ((value_orNull_x ..).trans (by rw [h1]; rfl))
  · simp at h

/- 5 nodes -/
def ref07_valid (v_k : Int) (v_i : Int) (v_t : List UInt8) : Int × Int × List UInt8 := (br (Go.Sim.M.ref07_Valid_pre v_k v_i v_t) (br (Go.Sim.M.ref07_Valid v_k v_i v_t) (v_k, v_i, v_t) ((0 : Int), (0 : Int), [])) (0, 0, []))
def ref07_valid_pre (v_k : Int) (v_i : Int) (v_t : List UInt8) : Bool := br (Go.Sim.M.ref07_Valid_pre v_k v_i v_t) (br (Go.Sim.M.ref07_Valid v_k v_i v_t) (true) (true)) (false)
theorem ref07_valid_x (v_k : Int) (v_i : Int) (v_t : List UInt8) : XF Tryd.prog E10 Tryd.f44 (Tryd.f44.body.getD .skip) [AV.agg [AV.int IntKind.i64 v_k, AV.int IntKind.i64 v_i, AV.str v_t]] = br (ref07_valid_pre v_k v_i v_t) (some (.agg [.int .i64 (ref07_valid v_k v_i v_t).1, .int .i64 (ref07_valid v_k v_i v_t).2.1, .str (ref07_valid v_k v_i v_t).2.2])) none :=
  (show _ = br (Go.Sim.M.ref07_Valid_pre v_k v_i v_t) (br (Go.Sim.M.ref07_Valid v_k v_i v_t) (some (AV.agg [AV.int IntKind.i64 v_k, AV.int IntKind.i64 v_i, AV.str v_t])) (some (AV.agg [AV.int IntKind.i64 (0 : Int), AV.int IntKind.i64 (0 : Int), AV.str []]))) none by kernel_rfl).trans (by unfold ref07_valid ref07_valid_pre; repeat' (first | rfl | refine br_opt (F := fun (p : Int × Int × List UInt8) => (.agg [.int .i64 p.1, .int .i64 p.2.1, .str p.2.2] : AV)) ?_ ?_))
def ref07_valid_o : List AV → Option (Bool × AV)
  | [AV.agg [AV.int IntKind.i64 v_k, AV.int IntKind.i64 v_i, AV.str v_t]] => some (ref07_valid_pre v_k v_i v_t, .agg [.int .i64 (ref07_valid v_k v_i v_t).1, .int .i64 (ref07_valid v_k v_i v_t).2.1, .str (ref07_valid v_k v_i v_t).2.2])
  | _ => none
theorem ref07_valid_c : OcOk Tryd.prog ITryd 44 ref07_valid_o := fun xs r h => by
  unfold ref07_valid_o at h; split at h
  · simp only [Option.some.injEq, Prod.mk.injEq] at h; obtain ⟨h1, rfl⟩ := h
    exact good_XF mxTryd (inv0Ok _) E10_ok Tryd.func44 rfl (by kernel_rfl) (by first | exact E10_lk | exact loOk_none fun _ _ _ => rfl) ((ref07_valid_x ..).trans (by rw [h1]; rfl))
  · simp at h


def E11 : Env := ((E10.with 43 value_orNull_o).with 44 ref07_valid_o)
theorem E11_ok : OrcOk Tryd.prog ITryd E11 := ((E10_ok.with value_orNull_c).with ref07_valid_c)
end Go.Sim.M
