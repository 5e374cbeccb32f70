/- Functions of the program, as the executor found them: printed by program, checked by the kernel. -/
import Derived.Test.YtkoepgogaojgmaaDoorL11
set_option linter.unusedVariables false
set_option linter.unusedSimpArgs false
set_option maxRecDepth 100000
namespace Go.Sim.M
open Go.RowKit Go.Proofs

/- 3 nodes -/
def value_Int (n : Int) : Int × Int × List UInt8 := (br (Go.Sim.M.value_orNull_pre (1 : Int) n []) ((Go.Sim.M.value_orNull (1 : Int) n []).fst, (Go.Sim.M.value_orNull (1 : Int) n []).snd.fst, (Go.Sim.M.value_orNull (1 : Int) n []).snd.snd) (0, 0, []))
def value_Int_pre (n : Int) : Bool := br (Go.Sim.M.value_orNull_pre (1 : Int) n []) (true) (false)
theorem value_Int_x (n : Int) : XF Tryd.prog E11 Tryd.f14 (Tryd.f14.body.getD .skip) [AV.int IntKind.i64 n] = br (value_Int_pre n) (some (.agg [.int .i64 (value_Int n).1, .int .i64 (value_Int n).2.1, .str (value_Int n).2.2])) none :=
  (show _ = br (Go.Sim.M.value_orNull_pre (1 : Int) n []) (some (AV.agg [AV.int IntKind.i64 (Go.Sim.M.value_orNull (1 : Int) n []).fst, AV.int IntKind.i64 (Go.Sim.M.value_orNull (1 : Int) n []).snd.fst, AV.str (Go.Sim.M.value_orNull (1 : Int) n []).snd.snd])) none by kernel_rfl).trans (by unfold value_Int value_Int_pre; repeat' (first | rfl | refine br_opt (F := fun (p : Int × Int × List UInt8) => (.agg [.int .i64 p.1, .int .i64 p.2.1, .str p.2.2] : AV)) ?_ ?_))
def value_Int_o : List AV → Option (Bool × AV)
  | [AV.int IntKind.i64 n] => some (value_Int_pre n, .agg [.int .i64 (value_Int n).1, .int .i64 (value_Int n).2.1, .str (value_Int n).2.2])
  | _ => none
theorem value_Int_c : OcOk Tryd.prog ITryd 14 value_Int_o := fun xs r h => by
  unfold value_Int_o at h; split at h
  · simp only [Option.some.injEq, Prod.mk.injEq] at h; obtain ⟨h1, rfl⟩ := h
    exact good_XF mxTryd (inv0Ok _) E11_ok Tryd.func14 rfl (by kernel_rfl) (by first | exact E11_lk | exact loOk_none fun _ _ _ => rfl) ((value_Int_x ..).trans (by rw [h1]; rfl))
  · simp at h

/- 3 nodes -/
def ref07_Int (n : Int) : Int × Int × List UInt8 := (br (Go.Sim.M.ref07_valid_pre (1 : Int) n []) ((Go.Sim.M.ref07_valid (1 : Int) n []).fst, (Go.Sim.M.ref07_valid (1 : Int) n []).snd.fst, (Go.Sim.M.ref07_valid (1 : Int) n []).snd.snd) (0, 0, []))
def ref07_Int_pre (n : Int) : Bool := br (Go.Sim.M.ref07_valid_pre (1 : Int) n []) (true) (false)
theorem ref07_Int_x (n : Int) : XF Tryd.prog E11 Tryd.f15 (Tryd.f15.body.getD .skip) [AV.int IntKind.i64 n] = br (ref07_Int_pre n) (some (.agg [.int .i64 (ref07_Int n).1, .int .i64 (ref07_Int n).2.1, .str (ref07_Int n).2.2])) none :=
  (show _ = br (Go.Sim.M.ref07_valid_pre (1 : Int) n []) (some (AV.agg [AV.int IntKind.i64 (Go.Sim.M.ref07_valid (1 : Int) n []).fst, AV.int IntKind.i64 (Go.Sim.M.ref07_valid (1 : Int) n []).snd.fst, AV.str (Go.Sim.M.ref07_valid (1 : Int) n []).snd.snd])) none by kernel_rfl).trans (by unfold ref07_Int ref07_Int_pre; repeat' (first | rfl | refine br_opt (F := fun (p : Int × Int × List UInt8) => (.agg [.int .i64 p.1, .int .i64 p.2.1, .str p.2.2] : AV)) ?_ ?_))
def ref07_Int_o : List AV → Option (Bool × AV)
  | [AV.int IntKind.i64 n] => some (ref07_Int_pre n, .agg [.int .i64 (ref07_Int n).1, .int .i64 (ref07_Int n).2.1, .str (ref07_Int n).2.2])
  | _ => none
theorem ref07_Int_c : OcOk Tryd.prog ITryd 15 ref07_Int_o := fun xs r h => by
  unfold ref07_Int_o at h; split at h
  · simp only [Option.some.injEq, Prod.mk.injEq] at h; obtain ⟨h1, rfl⟩ := h
    exact good_XF mxTryd (inv0Ok _) E11_ok Tryd.func15 rfl (by kernel_rfl) (by first | exact E11_lk | exact loOk_none fun _ _ _ => rfl) ((ref07_Int_x ..).trans (by rw [h1]; rfl))
  · simp at h

/- 3 nodes -/
def value_Text (s : List UInt8) : Int × Int × List UInt8 := (br (Go.Sim.M.value_orNull_pre (2 : Int) (0 : Int) s) ((Go.Sim.M.value_orNull (2 : Int) (0 : Int) s).fst, (Go.Sim.M.value_orNull (2 : Int) (0 : Int) s).snd.fst, (Go.Sim.M.value_orNull (2 : Int) (0 : Int) s).snd.snd) (0, 0, []))
def value_Text_pre (s : List UInt8) : Bool := br (Go.Sim.M.value_orNull_pre (2 : Int) (0 : Int) s) (true) (false)
theorem value_Text_x (s : List UInt8) : XF Tryd.prog E11 Tryd.f16 (Tryd.f16.body.getD .skip) [AV.str s] = br (value_Text_pre s) (some (.agg [.int .i64 (value_Text s).1, .int .i64 (value_Text s).2.1, .str (value_Text s).2.2])) none :=
  (show _ = br (Go.Sim.M.value_orNull_pre (2 : Int) (0 : Int) s) (some (AV.agg [AV.int IntKind.i64 (Go.Sim.M.value_orNull (2 : Int) (0 : Int) s).fst, AV.int IntKind.i64 (Go.Sim.M.value_orNull (2 : Int) (0 : Int) s).snd.fst, AV.str (Go.Sim.M.value_orNull (2 : Int) (0 : Int) s).snd.snd])) none by kernel_rfl).trans (by unfold value_Text value_Text_pre; repeat' (first | rfl | refine br_opt (F := fun (p : Int × Int × List UInt8) => (.agg [.int .i64 p.1, .int .i64 p.2.1, .str p.2.2] : AV)) ?_ ?_))
def value_Text_o : List AV → Option (Bool × AV)
  | [AV.str s] => some (value_Text_pre s, .agg [.int .i64 (value_Text s).1, .int .i64 (value_Text s).2.1, .str (value_Text s).2.2])
  | _ => none
theorem value_Text_c : OcOk Tryd.prog ITryd 16 value_Text_o := fun xs r h => by
  unfold value_Text_o at h; split at h
  · simp only [Option.some.injEq, Prod.mk.injEq] at h; obtain ⟨h1, rfl⟩ := h
    exact good_XF mxTryd (inv0Ok _) E11_ok Tryd.func16 rfl (by kernel_rfl) (by first | exact E11_lk | exact loOk_none fun _ _ _ => rfl) ((value_Text_x ..).trans (by rw [h1]; rfl))
  · simp at h

/- 3 nodes -/
def ref07_Text (s : List UInt8) : Int × Int × List UInt8 := (br (Go.Sim.M.ref07_valid_pre (2 : Int) (0 : Int) s) ((Go.Sim.M.ref07_valid (2 : Int) (0 : Int) s).fst, (Go.Sim.M.ref07_valid (2 : Int) (0 : Int) s).snd.fst, (Go.Sim.M.ref07_valid (2 : Int) (0 : Int) s).snd.snd) (0, 0, []))
def ref07_Text_pre (s : List UInt8) : Bool := br (Go.Sim.M.ref07_valid_pre (2 : Int) (0 : Int) s) (true) (false)
theorem ref07_Text_x (s : List UInt8) : XF Tryd.prog E11 Tryd.f17 (Tryd.f17.body.getD .skip) [AV.str s] = br (ref07_Text_pre s) (some (.agg [.int .i64 (ref07_Text s).1, .int .i64 (ref07_Text s).2.1, .str (ref07_Text s).2.2])) none :=
  (show _ = br (Go.Sim.M.ref07_valid_pre (2 : Int) (0 : Int) s) (some (AV.agg [AV.int IntKind.i64 (Go.Sim.M.ref07_valid (2 : Int) (0 : Int) s).fst, AV.int IntKind.i64 (Go.Sim.M.ref07_valid (2 : Int) (0 : Int) s).snd.fst, AV.str (Go.Sim.M.ref07_valid (2 : Int) (0 : Int) s).snd.snd])) none by kernel_rfl).trans (by unfold ref07_Text ref07_Text_pre; repeat' (first | rfl | refine br_opt (F := fun (p : Int × Int × List UInt8) => (.agg [.int .i64 p.1, .int .i64 p.2.1, .str p.2.2] : AV)) ?_ ?_))
def ref07_Text_o : List AV → Option (Bool × AV)
  | [AV.str s] => some (ref07_Text_pre s, .agg [.int .i64 (ref07_Text s).1, .int .i64 (ref07_Text s).2.1, .str (ref07_Text s).2.2])
  | _ => none
theorem ref07_Text_c : OcOk Tryd.prog ITryd 17 ref07_Text_o := fun xs r h => by
  unfold ref07_Text_o at h; split at h
  · simp only [Option.some.injEq, Prod.mk.injEq] at h; obtain ⟨h1, rfl⟩ := h
    exact good_XF mxTryd (inv0Ok _) E11_ok Tryd.func17 rfl (by kernel_rfl) (by first | exact E11_lk | exact loOk_none fun _ _ _ => rfl) ((ref07_Text_x ..).trans (by rw [h1]; rfl))
  · simp at h


def E12 : Env := ((((E11.with 14 value_Int_o).with 15 ref07_Int_o).with 16 value_Text_o).with 17 ref07_Text_o)
theorem E12_ok : OrcOk Tryd.prog ITryd E12 := ((((E11_ok.with value_Int_c).with ref07_Int_c).with value_Text_c).with ref07_Text_c)
end Go.Sim.M
