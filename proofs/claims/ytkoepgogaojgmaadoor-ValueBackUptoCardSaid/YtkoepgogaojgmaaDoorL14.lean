/- Functions of the program, as the executor found them: printed by program, checked by the kernel. -/
import Derived.Test.YtkoepgogaojgmaaDoorL13
set_option linter.unusedVariables false
set_option linter.unusedSimpArgs false
set_option maxRecDepth 100000
namespace Go.Sim.M
open Go.RowKit Go.Proofs

/- 7 nodes -/
def internal_stringslite_CutPrefix (s : List UInt8) (prefix0 : List UInt8) : List UInt8 × Bool := (br (Go.Sim.M.internal_stringslite_HasPrefix_pre s prefix0) (br (!Go.Sim.M.internal_stringslite_HasPrefix s prefix0) (s, false) (br (decide ((↑prefix0.length : Int) ≤ (↑s.length : Int))) (List.take (s.length - (↑prefix0.length : Int).toNat) (List.drop (↑prefix0.length : Int).toNat s), true) ([], false))) ([], false))
def internal_stringslite_CutPrefix_pre (s : List UInt8) (prefix0 : List UInt8) : Bool := br (Go.Sim.M.internal_stringslite_HasPrefix_pre s prefix0) (br (!Go.Sim.M.internal_stringslite_HasPrefix s prefix0) (true) (br (decide ((↑prefix0.length : Int) ≤ (↑s.length : Int))) (true) (false))) (false)
theorem internal_stringslite_CutPrefix_x (s : List UInt8) (prefix0 : List UInt8) : XF Tryd.prog E13 Tryd.f73 (Tryd.f73.body.getD .skip) [AV.str s, AV.str prefix0] = br (internal_stringslite_CutPrefix_pre s prefix0) (some (.tuple [.str (internal_stringslite_CutPrefix s prefix0).1, .bool (internal_stringslite_CutPrefix s prefix0).2])) none :=
  (show _ = br (Go.Sim.M.internal_stringslite_HasPrefix_pre s prefix0) (br (!Go.Sim.M.internal_stringslite_HasPrefix s prefix0) (some (AV.tuple [AV.str s, AV.bool false])) (br (decide ((↑prefix0.length : Int) ≤ (↑s.length : Int))) (some (AV.tuple [AV.str (List.take (s.length - (↑prefix0.length : Int).toNat) (List.drop (↑prefix0.length : Int).toNat s)), AV.bool true])) none)) none by kernel_rfl).trans (by unfold internal_stringslite_CutPrefix internal_stringslite_CutPrefix_pre; repeat' (first | rfl | refine br_opt (F := fun (p : List UInt8 × Bool) => (.tuple [.str p.1, .bool p.2] : AV)) ?_ ?_))
def internal_stringslite_CutPrefix_o : List AV → Option (Bool × AV)
  | [AV.str s, AV.str prefix0] => some (internal_stringslite_CutPrefix_pre s prefix0, .tuple [.str (internal_stringslite_CutPrefix s prefix0).1, .bool (internal_stringslite_CutPrefix s prefix0).2])
  | _ => none
theorem internal_stringslite_CutPrefix_c : OcOk Tryd.prog ITryd 73 internal_stringslite_CutPrefix_o := fun xs r h => by
  unfold internal_stringslite_CutPrefix_o at h; split at h
  · simp only [Option.some.injEq, Prod.mk.injEq] at h; obtain ⟨h1, rfl⟩ := h
    exact good_XF mxTryd (inv0Ok _) E13_ok Tryd.func73 rfl (by kernel_rfl) (by first | exact E13_lk | exact loOk_none fun _ _ _ => rfl) ((internal_stringslite_CutPrefix_x ..).trans (by rw [h1]; rfl))
  · simp at h

/- 7 nodes -/
def internal_stringslite_CutSuffix (s : List UInt8) (suffix : List UInt8) : List UInt8 × Bool := (br (Go.Sim.M.internal_stringslite_HasSuffix_pre s suffix) (br (!Go.Sim.M.internal_stringslite_HasSuffix s suffix) (s, false) (br (decide ((0 : Int) ≤ IntKind.i64.wrap ((↑s.length : Int) - (↑suffix.length : Int))) && decide (IntKind.i64.wrap ((↑s.length : Int) - (↑suffix.length : Int)) ≤ (↑s.length : Int)) && true) (List.take ((IntKind.i64.wrap ((↑s.length : Int) - (↑suffix.length : Int))).toNat - (0 : Nat)) (List.drop (0 : Nat) s), true) ([], false))) ([], false))
def internal_stringslite_CutSuffix_pre (s : List UInt8) (suffix : List UInt8) : Bool := br (Go.Sim.M.internal_stringslite_HasSuffix_pre s suffix) (br (!Go.Sim.M.internal_stringslite_HasSuffix s suffix) (true) (br (decide ((0 : Int) ≤ IntKind.i64.wrap ((↑s.length : Int) - (↑suffix.length : Int))) && decide (IntKind.i64.wrap ((↑s.length : Int) - (↑suffix.length : Int)) ≤ (↑s.length : Int)) && true) (true) (false))) (false)
theorem internal_stringslite_CutSuffix_x (s : List UInt8) (suffix : List UInt8) : XF Tryd.prog E13 Tryd.f71 (Tryd.f71.body.getD .skip) [AV.str s, AV.str suffix] = br (internal_stringslite_CutSuffix_pre s suffix) (some (.tuple [.str (internal_stringslite_CutSuffix s suffix).1, .bool (internal_stringslite_CutSuffix s suffix).2])) none :=
  (show _ = br (Go.Sim.M.internal_stringslite_HasSuffix_pre s suffix) (br (!Go.Sim.M.internal_stringslite_HasSuffix s suffix) (some (AV.tuple [AV.str s, AV.bool false])) (br (decide ((0 : Int) ≤ IntKind.i64.wrap ((↑s.length : Int) - (↑suffix.length : Int))) && decide (IntKind.i64.wrap ((↑s.length : Int) - (↑suffix.length : Int)) ≤ (↑s.length : Int)) && true) (some (AV.tuple [AV.str (List.take ((IntKind.i64.wrap ((↑s.length : Int) - (↑suffix.length : Int))).toNat - (0 : Nat)) (List.drop (0 : Nat) s)), AV.bool true])) none)) none by kernel_rfl).trans (by unfold internal_stringslite_CutSuffix internal_stringslite_CutSuffix_pre; repeat' (first | rfl | refine br_opt (F := fun (p : List UInt8 × Bool) => (.tuple [.str p.1, .bool p.2] : AV)) ?_ ?_))
def internal_stringslite_CutSuffix_o : List AV → Option (Bool × AV)
  | [AV.str s, AV.str suffix] => some (internal_stringslite_CutSuffix_pre s suffix, .tuple [.str (internal_stringslite_CutSuffix s suffix).1, .bool (internal_stringslite_CutSuffix s suffix).2])
  | _ => none
theorem internal_stringslite_CutSuffix_c : OcOk Tryd.prog ITryd 71 internal_stringslite_CutSuffix_o := fun xs r h => by
  unfold internal_stringslite_CutSuffix_o at h; split at h
  · simp only [Option.some.injEq, Prod.mk.injEq] at h; obtain ⟨h1, rfl⟩ := h
    exact good_XF mxTryd (inv0Ok _) E13_ok Tryd.func71 rfl (by kernel_rfl) (by first | exact E13_lk | exact loOk_none fun _ _ _ => rfl) ((internal_stringslite_CutSuffix_x ..).trans (by rw [h1]; rfl))
  · simp at h

/- 3 nodes -/
def strings_HasPrefix (s : List UInt8) (prefix0 : List UInt8) : Bool := (br (Go.Sim.M.internal_stringslite_HasPrefix_pre s prefix0) (Go.Sim.M.internal_stringslite_HasPrefix s prefix0) (false))
def strings_HasPrefix_pre (s : List UInt8) (prefix0 : List UInt8) : Bool := br (Go.Sim.M.internal_stringslite_HasPrefix_pre s prefix0) (true) (false)
theorem strings_HasPrefix_x (s : List UInt8) (prefix0 : List UInt8) : XF Tryd.prog E13 Tryd.f45 (Tryd.f45.body.getD .skip) [AV.str s, AV.str prefix0] = br (strings_HasPrefix_pre s prefix0) (some (.bool (strings_HasPrefix s prefix0))) none :=
  (show _ = br (Go.Sim.M.internal_stringslite_HasPrefix_pre s prefix0) (some (AV.bool (Go.Sim.M.internal_stringslite_HasPrefix s prefix0))) none by kernel_rfl).trans (by unfold strings_HasPrefix strings_HasPrefix_pre; repeat' (first | rfl | refine br_opt (F := fun (p : Bool) => (.bool p : AV)) ?_ ?_))
def strings_HasPrefix_o : List AV → Option (Bool × AV)
  | [AV.str s, AV.str prefix0] => some (strings_HasPrefix_pre s prefix0, .bool (strings_HasPrefix s prefix0))
  | _ => none
theorem strings_HasPrefix_c : OcOk Tryd.prog ITryd 45 strings_HasPrefix_o := fun xs r h => by
  unfold strings_HasPrefix_o at h; split at h
  · simp only [Option.some.injEq, Prod.mk.injEq] at h; obtain ⟨h1, rfl⟩ := h
    exact good_XF mxTryd (inv0Ok _) E13_ok Tryd.func45 rfl (by kernel_rfl) (by first | exact E13_lk | exact loOk_none fun _ _ _ => rfl) ((strings_HasPrefix_x ..).trans (by rw [h1]; rfl))
  · simp at h


def E14 : Env := (((E13.with 73 internal_stringslite_CutPrefix_o).with 71 internal_stringslite_CutSuffix_o).with 45 strings_HasPrefix_o)
theorem E14_ok : OrcOk Tryd.prog ITryd E14 := (((E13_ok.with internal_stringslite_CutPrefix_c).with internal_stringslite_CutSuffix_c).with strings_HasPrefix_c)
end Go.Sim.M
