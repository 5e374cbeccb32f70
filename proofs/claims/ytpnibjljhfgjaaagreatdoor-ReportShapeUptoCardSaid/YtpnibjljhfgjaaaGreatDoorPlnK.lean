/- Versions as tables: slices.Concat. -/
import Derived.Test.YtpnibjljhfgjaaaGreatDoorPlnN
set_option linter.unusedVariables false
set_option linter.unusedSectionVars false
set_option linter.unusedSimpArgs false
set_option maxRecDepth 100000
namespace Go.Sim.M
open Go.RowKit Go.Lib

theorem concat_ok (a b c : List Sx) (ha : a.length ≤ 1073741824) (hb : b.length ≤ 1073741824) (hc : c.length ≤ 1073741824) : slices_Concat (encS a) (encS b) (encS c) = some (encS (a ++ b ++ c)) := by
  have w1 : IntKind.i64.wrap ((0 : Int) + ((a.length : Nat) : Int)) = ((a.length : Nat) : Int) := by rw [wrap_i64 (by omega) (by omega)]; omega
  have w2 : IntKind.i64.wrap (((a.length : Nat) : Int) + ((b.length : Nat) : Int)) = ((a.length + b.length : Nat) : Int) := by rw [wrap_i64 (by omega) (by omega)]; omega
  have w3 : IntKind.i64.wrap (((a.length + b.length : Nat) : Int) + ((c.length : Nat) : Int)) = ((a.length + b.length + c.length : Nat) : Int) := by rw [wrap_i64 (by omega) (by omega)]; omega
  have e : [] ++ encS a ++ encS b ++ encS c = encS (a ++ b ++ c) := by simp [encS]
  have e2 : ([] ++ encS a ++ encS b).length = a.length + b.length := by simp [encS]
  have e1 : ([] ++ encS a).length = a.length := by simp [encS]
  unfold slices_Concat slices_Concat_t slices_Concat_v0 slices_Concat_v1 slices_Concat_v2
  rw [encS_len, encS_len, encS_len, w1, w2, w3, e, e2, e1, encS_len]
  rw [take_encS _ _ (by first | (simp; done) | (simp; omega))]
  simp only [br_if]
  rw [if_neg (by first | (simp; done) | (simp; omega)), if_neg (by first | (simp; done) | (simp; omega)), if_neg (by first | (simp; done) | (simp; omega)), if_pos (by first | (simp; done) | (simp; omega)), if_pos (by first | (simp; done) | (simp; omega)), if_pos (by first | (simp; done) | (simp; omega)), if_pos (by first | (simp; done) | (simp; omega)), if_pos (by first | (simp; done) | (simp; omega))]

noncomputable def rowV (N : Nat) (x : Ver) : List Sx := [itoa x.id] ++ vals x.row N ++ [pTxt x.f x.t, pTxt x.sf x.st, itoa x.by', if x.un = 0 then [45] else itoa x.un]
def headV (cs : List Col) : List Sx := [[105, 100]] ++ namesOf cs ++ [wValid, [115, 121, 115, 116, 101, 109], [98, 121], [117, 110, 116, 105, 108]]
theorem rowV_len (N : Nat) (x : Ver) : (rowV N x).length = N + 5 := by simp [rowV, vals_len]
theorem headV_len (cs : List Col) : (headV cs).length = cs.length + 5 := by simp [headV, namesOf_len]

theorem i64_bnd {n : Int} (h : I64 n) : (decide ((-9223372036854775808 : Int) ≤ n) && decide (n ≤ (9223372036854775807 : Int))) = true := by
  unfold I64 at h
  simp [Lit.wf] at h ⊢
  have a : IntKind.i64.min = -9223372036854775808 := by decide
  have b : IntKind.i64.max = 9223372036854775807 := by decide
  omega
end Go.Sim.M
