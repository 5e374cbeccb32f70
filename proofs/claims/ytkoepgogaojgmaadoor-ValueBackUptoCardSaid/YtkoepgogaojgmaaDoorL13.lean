/- Functions of the program, as the executor found them: printed by program, checked by the kernel. -/
import Derived.Test.YtkoepgogaojgmaaDoorL12
set_option linter.unusedVariables false
set_option linter.unusedSimpArgs false
set_option maxRecDepth 100000
namespace Go.Sim.M
open Go.RowKit Go.Proofs

/- 21 nodes -/
def law07_ValueConstructs (v_k : Int) (v_i : Int) (v_t : List UInt8) (n : Int) (s : List UInt8) (b : Bool) : Bool := (br (Go.Sim.M.value_Valid_pre v_k v_i v_t) (br (Go.Sim.M.ref07_Valid_pre v_k v_i v_t) (br (Go.Sim.M.value_Valid v_k v_i v_t == Go.Sim.M.ref07_Valid v_k v_i v_t) (br (Go.Sim.M.value_Int_pre n) (br (Go.Sim.M.ref07_Int_pre n) (br ((Go.Sim.M.value_Int n).fst == (Go.Sim.M.ref07_Int n).fst && ((Go.Sim.M.value_Int n).snd.fst == (Go.Sim.M.ref07_Int n).snd.fst && ((Go.Sim.M.value_Int n).snd.snd == (Go.Sim.M.ref07_Int n).snd.snd && true))) (br (Go.Sim.M.value_Text_pre s) (br (Go.Sim.M.ref07_Text_pre s) (br ((Go.Sim.M.value_Text s).fst == (Go.Sim.M.ref07_Text s).fst && ((Go.Sim.M.value_Text s).snd.fst == (Go.Sim.M.ref07_Text s).snd.fst && ((Go.Sim.M.value_Text s).snd.snd == (Go.Sim.M.ref07_Text s).snd.snd && true))) (br ((Go.Sim.M.value_Bool b).fst == (Go.Sim.M.ref07_Bool b).fst && ((Go.Sim.M.value_Bool b).snd.fst == (Go.Sim.M.ref07_Bool b).snd.fst && ((Go.Sim.M.value_Bool b).snd.snd == (Go.Sim.M.ref07_Bool b).snd.snd && true))) (true) (false)) (false)) (false)) (false)) (false)) (false)) (false)) (false)) (false)) (false))
def law07_ValueConstructs_pre (v_k : Int) (v_i : Int) (v_t : List UInt8) (n : Int) (s : List UInt8) (b : Bool) : Bool := br (Go.Sim.M.value_Valid_pre v_k v_i v_t) (br (Go.Sim.M.ref07_Valid_pre v_k v_i v_t) (br (Go.Sim.M.value_Valid v_k v_i v_t == Go.Sim.M.ref07_Valid v_k v_i v_t) (br (Go.Sim.M.value_Int_pre n) (br (Go.Sim.M.ref07_Int_pre n) (br ((Go.Sim.M.value_Int n).fst == (Go.Sim.M.ref07_Int n).fst && ((Go.Sim.M.value_Int n).snd.fst == (Go.Sim.M.ref07_Int n).snd.fst && ((Go.Sim.M.value_Int n).snd.snd == (Go.Sim.M.ref07_Int n).snd.snd && true))) (br (Go.Sim.M.value_Text_pre s) (br (Go.Sim.M.ref07_Text_pre s) (br ((Go.Sim.M.value_Text s).fst == (Go.Sim.M.ref07_Text s).fst && ((Go.Sim.M.value_Text s).snd.fst == (Go.Sim.M.ref07_Text s).snd.fst && ((Go.Sim.M.value_Text s).snd.snd == (Go.Sim.M.ref07_Text s).snd.snd && true))) (br ((Go.Sim.M.value_Bool b).fst == (Go.Sim.M.ref07_Bool b).fst && ((Go.Sim.M.value_Bool b).snd.fst == (Go.Sim.M.ref07_Bool b).snd.fst && ((Go.Sim.M.value_Bool b).snd.snd == (Go.Sim.M.ref07_Bool b).snd.snd && true))) (true) (true)) (true)) (false)) (false)) (true)) (false)) (false)) (true)) (false)) (false)
theorem law07_ValueConstructs_x (v_k : Int) (v_i : Int) (v_t : List UInt8) (n : Int) (s : List UInt8) (b : Bool) : XF Tryd.prog E12 Tryd.f3 (Tryd.f3.body.getD .skip) [AV.agg [AV.int IntKind.i64 v_k, AV.int IntKind.i64 v_i, AV.str v_t], AV.int IntKind.i64 n, AV.str s, AV.bool b] = br (law07_ValueConstructs_pre v_k v_i v_t n s b) (some (.bool (law07_ValueConstructs v_k v_i v_t n s b))) none :=
  (show _ = br (Go.Sim.M.value_Valid_pre v_k v_i v_t) (br (Go.Sim.M.ref07_Valid_pre v_k v_i v_t) (br (Go.Sim.M.value_Valid v_k v_i v_t == Go.Sim.M.ref07_Valid v_k v_i v_t) (br (Go.Sim.M.value_Int_pre n) (br (Go.Sim.M.ref07_Int_pre n) (br ((Go.Sim.M.value_Int n).fst == (Go.Sim.M.ref07_Int n).fst && ((Go.Sim.M.value_Int n).snd.fst == (Go.Sim.M.ref07_Int n).snd.fst && ((Go.Sim.M.value_Int n).snd.snd == (Go.Sim.M.ref07_Int n).snd.snd && true))) (br (Go.Sim.M.value_Text_pre s) (br (Go.Sim.M.ref07_Text_pre s) (br ((Go.Sim.M.value_Text s).fst == (Go.Sim.M.ref07_Text s).fst && ((Go.Sim.M.value_Text s).snd.fst == (Go.Sim.M.ref07_Text s).snd.fst && ((Go.Sim.M.value_Text s).snd.snd == (Go.Sim.M.ref07_Text s).snd.snd && true))) (br ((Go.Sim.M.value_Bool b).fst == (Go.Sim.M.ref07_Bool b).fst && ((Go.Sim.M.value_Bool b).snd.fst == (Go.Sim.M.ref07_Bool b).snd.fst && ((Go.Sim.M.value_Bool b).snd.snd == (Go.Sim.M.ref07_Bool b).snd.snd && true))) (some (AV.bool true)) (some (AV.bool false))) (some (AV.bool false))) none) none) (some (AV.bool false))) none) none) (some (AV.bool false))) none) none by kernel_rfl).trans (by unfold law07_ValueConstructs law07_ValueConstructs_pre; repeat' (first | rfl | refine br_opt (F := fun (p : Bool) => (.bool p : AV)) ?_ ?_))
def law07_ValueConstructs_o : List AV → Option (Bool × AV)
  | [AV.agg [AV.int IntKind.i64 v_k, AV.int IntKind.i64 v_i, AV.str v_t], AV.int IntKind.i64 n, AV.str s, AV.bool b] => some (law07_ValueConstructs_pre v_k v_i v_t n s b, .bool (law07_ValueConstructs v_k v_i v_t n s b))
  | _ => none
theorem law07_ValueConstructs_c : OcOk Tryd.prog ITryd 3 law07_ValueConstructs_o := fun xs r h => by
  unfold law07_ValueConstructs_o at h; split at h
  · simp only [Option.some.injEq, Prod.mk.injEq] at h; obtain ⟨h1, rfl⟩ := h
    exact good_XF mxTryd (inv0Ok _) E12_ok Tryd.func3 rfl (by kernel_rfl) (by first | exact E12_lk | exact loOk_none fun _ _ _ => rfl) ((law07_ValueConstructs_x ..).trans (by rw [h1]; rfl))
  · simp at h


def E13 : Env := (E12.with 3 law07_ValueConstructs_o)
theorem E13_ok : OrcOk Tryd.prog ITryd E13 := (E12_ok.with law07_ValueConstructs_c)
end Go.Sim.M
