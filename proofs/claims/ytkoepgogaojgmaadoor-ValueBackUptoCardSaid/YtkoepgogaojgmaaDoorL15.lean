/- Functions of the program, as the executor found them: printed by program, checked by the kernel. -/
import Derived.Test.YtkoepgogaojgmaaDoorL14
set_option linter.unusedVariables false
set_option linter.unusedSimpArgs false
set_option maxRecDepth 100000
namespace Go.Sim.M
open Go.RowKit Go.Proofs

/- 3 nodes -/
def strings_CutPrefix (s : List UInt8) (prefix0 : List UInt8) : List UInt8 × Bool := (br (Go.Sim.M.internal_stringslite_CutPrefix_pre s prefix0) ((Go.Sim.M.internal_stringslite_CutPrefix s prefix0).fst, (Go.Sim.M.internal_stringslite_CutPrefix s prefix0).snd) ([], false))
def strings_CutPrefix_pre (s : List UInt8) (prefix0 : List UInt8) : Bool := br (Go.Sim.M.internal_stringslite_CutPrefix_pre s prefix0) (true) (false)
theorem strings_CutPrefix_x (s : List UInt8) (prefix0 : List UInt8) : XF Tryd.prog E14 Tryd.f65 (Tryd.f65.body.getD .skip) [AV.str s, AV.str prefix0] = br (strings_CutPrefix_pre s prefix0) (some (.tuple [.str (strings_CutPrefix s prefix0).1, .bool (strings_CutPrefix s prefix0).2])) none :=
  (show _ = br (Go.Sim.M.internal_stringslite_CutPrefix_pre s prefix0) (some (AV.tuple [AV.str (Go.Sim.M.internal_stringslite_CutPrefix s prefix0).fst, AV.bool (Go.Sim.M.internal_stringslite_CutPrefix s prefix0).snd])) none by kernel_rfl).trans (by unfold strings_CutPrefix strings_CutPrefix_pre; repeat' (first | rfl | refine br_opt (F := fun (p : List UInt8 × Bool) => (.tuple [.str p.1, .bool p.2] : AV)) ?_ ?_))
def strings_CutPrefix_o : List AV → Option (Bool × AV)
  | [AV.str s, AV.str prefix0] => some (strings_CutPrefix_pre s prefix0, .tuple [.str (strings_CutPrefix s prefix0).1, .bool (strings_CutPrefix s prefix0).2])
  | _ => none
theorem strings_CutPrefix_c : OcOk Tryd.prog ITryd 65 strings_CutPrefix_o := fun xs r h => by
  unfold strings_CutPrefix_o at h; split at h
  · simp only [Option.some.injEq, Prod.mk.injEq] at h; obtain ⟨h1, rfl⟩ := h
    exact good_XF mxTryd (inv0Ok _) E14_ok Tryd.func65 rfl (by kernel_rfl) (by first | exact E14_lk | exact loOk_none fun _ _ _ => rfl) ((strings_CutPrefix_x ..).trans (by rw [h1]; rfl))
  · simp at h

/- 3 nodes -/
def strings_CutSuffix (s : List UInt8) (suffix : List UInt8) : List UInt8 × Bool := (br (Go.Sim.M.internal_stringslite_CutSuffix_pre s suffix) ((Go.Sim.M.internal_stringslite_CutSuffix s suffix).fst, (Go.Sim.M.internal_stringslite_CutSuffix s suffix).snd) ([], false))
def strings_CutSuffix_pre (s : List UInt8) (suffix : List UInt8) : Bool := br (Go.Sim.M.internal_stringslite_CutSuffix_pre s suffix) (true) (false)
theorem strings_CutSuffix_x (s : List UInt8) (suffix : List UInt8) : XF Tryd.prog E14 Tryd.f63 (Tryd.f63.body.getD .skip) [AV.str s, AV.str suffix] = br (strings_CutSuffix_pre s suffix) (some (.tuple [.str (strings_CutSuffix s suffix).1, .bool (strings_CutSuffix s suffix).2])) none :=
  (show _ = br (Go.Sim.M.internal_stringslite_CutSuffix_pre s suffix) (some (AV.tuple [AV.str (Go.Sim.M.internal_stringslite_CutSuffix s suffix).fst, AV.bool (Go.Sim.M.internal_stringslite_CutSuffix s suffix).snd])) none by kernel_rfl).trans (by unfold strings_CutSuffix strings_CutSuffix_pre; repeat' (first | rfl | refine br_opt (F := fun (p : List UInt8 × Bool) => (.tuple [.str p.1, .bool p.2] : AV)) ?_ ?_))
def strings_CutSuffix_o : List AV → Option (Bool × AV)
  | [AV.str s, AV.str suffix] => some (strings_CutSuffix_pre s suffix, .tuple [.str (strings_CutSuffix s suffix).1, .bool (strings_CutSuffix s suffix).2])
  | _ => none
theorem strings_CutSuffix_c : OcOk Tryd.prog ITryd 63 strings_CutSuffix_o := fun xs r h => by
  unfold strings_CutSuffix_o at h; split at h
  · simp only [Option.some.injEq, Prod.mk.injEq] at h; obtain ⟨h1, rfl⟩ := h
    exact good_XF mxTryd (inv0Ok _) E14_ok Tryd.func63 rfl (by kernel_rfl) (by first | exact E14_lk | exact loOk_none fun _ _ _ => rfl) ((strings_CutSuffix_x ..).trans (by rw [h1]; rfl))
  · simp at h


def E15 : Env := ((E14.with 65 strings_CutPrefix_o).with 63 strings_CutSuffix_o)
theorem E15_ok : OrcOk Tryd.prog ITryd E15 := ((E14_ok.with strings_CutPrefix_c).with strings_CutSuffix_c)
end Go.Sim.M
