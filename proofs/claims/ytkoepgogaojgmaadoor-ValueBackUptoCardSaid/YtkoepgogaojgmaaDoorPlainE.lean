/- Reading of values: both readers agree; prefixes and suffixes of one letter. -/
import Derived.Test.YtkoepgogaojgmaaDoorPlainD
set_option linter.unusedVariables false
set_option linter.unusedSimpArgs false
set_option maxRecDepth 100000
namespace Go.Sim.M
open Go.RowKit Go.Lib

theorem hp_nil (c : UInt8) : strings_HasPrefix_pre [] [c] = true ∧ strings_HasPrefix [] [c] = false := ⟨rfl, rfl⟩

theorem hp_cons (c b : UInt8) (l : List UInt8) : strings_HasPrefix_pre (b :: l) [c] = true ∧ strings_HasPrefix (b :: l) [c] = decide (b = c) := by
  have e1 : decide (((b :: l).length : Int) ≥ (([c] : List UInt8).length : Int)) = true := decide_eq_true (by simp only [List.length_cons, List.length_nil]; omega)
  have e2 : (decide ((([c] : List UInt8).length : Int) ≤ ((b :: l).length : Int)) && true) = true := by simp only [Bool.and_true]; exact decide_eq_true (by simp only [List.length_cons, List.length_nil]; omega)
  have p : internal_stringslite_HasPrefix_pre (b :: l) [c] = true := by unfold internal_stringslite_HasPrefix_pre; rw [e1]; rfl
  have v : internal_stringslite_HasPrefix (b :: l) [c] = decide (b = c) := by
    unfold internal_stringslite_HasPrefix; rw [e1]
    show (List.take 1 (b :: l) == [c]) = decide (b = c)
    simp only [List.take_succ_cons, List.take_zero]
    by_cases h : b = c
    · subst h; simp
    · simp [h]
  unfold strings_HasPrefix_pre strings_HasPrefix
  rw [p, v]; exact ⟨rfl, rfl⟩

theorem cp_nil (c : UInt8) : strings_CutPrefix_pre [] [c] = true ∧ strings_CutPrefix [] [c] = ([], false) := ⟨rfl, rfl⟩

theorem cp_cons (c b : UInt8) (l : List UInt8) : strings_CutPrefix_pre (b :: l) [c] = true ∧ strings_CutPrefix (b :: l) [c] = if b = c then (l, true) else (b :: l, false) := by
  obtain ⟨p, v⟩ := hp_cons c b l
  have p' : internal_stringslite_HasPrefix_pre (b :: l) [c] = true := by
    unfold strings_HasPrefix_pre at p
    cases h : internal_stringslite_HasPrefix_pre (b :: l) [c] with
    | true => rfl
    | false => rw [h] at p; exact p
  have v' : internal_stringslite_HasPrefix (b :: l) [c] = decide (b = c) := by
    unfold strings_HasPrefix at v; rw [p'] at v; exact v
  have e1 : decide ((([c] : List UInt8).length : Int) ≤ ((b :: l).length : Int)) = true := decide_eq_true (by simp only [List.length_cons, List.length_nil]; omega)
  have et : List.take ((b :: l).length - ((([c] : List UInt8).length : Int)).toNat) (List.drop ((([c] : List UInt8).length : Int)).toNat (b :: l)) = l := by
    show List.take ((b :: l).length - 1) (List.drop 1 (b :: l)) = l
    simp
  have pp : internal_stringslite_CutPrefix_pre (b :: l) [c] = true := by
    unfold internal_stringslite_CutPrefix_pre; rw [p', v', e1]; cases decide (b = c) <;> rfl
  have vv : internal_stringslite_CutPrefix (b :: l) [c] = if b = c then (l, true) else (b :: l, false) := by
    unfold internal_stringslite_CutPrefix; rw [p', v', e1, et]
    by_cases h : b = c
    · rw [decide_eq_true h, if_pos h]; rfl
    · rw [decide_eq_false h, if_neg h]; rfl
  unfold strings_CutPrefix_pre strings_CutPrefix
  rw [pp, vv]; exact ⟨rfl, rfl⟩

theorem cs_nil (c : UInt8) : strings_CutSuffix_pre [] [c] = true ∧ strings_CutSuffix [] [c] = ([], false) := ⟨rfl, rfl⟩

theorem cs_snoc (c x : UInt8) (u : List UInt8) (hl : u.length + 1 ≤ strMax) : strings_CutSuffix_pre (u ++ [x]) [c] = true ∧ strings_CutSuffix (u ++ [x]) [c] = if x = c then (u, true) else (u ++ [x], false) := by
  have hl' : u.length + 1 ≤ 4611686018427387904 := hl
  have len : ((u ++ [x]).length : Int) = (u.length : Int) + 1 := by simp
  have ew : IntKind.i64.wrap (((u ++ [x]).length : Int) - (([c] : List UInt8).length : Int)) = (u.length : Int) := by
    rw [len]; simp only [List.length_cons, List.length_nil]
    rw [wrap_i64 (by omega) (by omega)]; omega
  have e1 : decide (((u ++ [x]).length : Int) ≥ (([c] : List UInt8).length : Int)) = true := decide_eq_true (by rw [len]; simp only [List.length_cons, List.length_nil]; omega)
  have e2 : (decide ((0 : Int) ≤ (u.length : Int)) && decide ((u.length : Int) ≤ ((u ++ [x]).length : Int))) = true := by rw [len]; simp; omega
  have et : List.take ((u ++ [x]).length - ((u.length : Int)).toNat) (List.drop ((u.length : Int)).toNat (u ++ [x])) = [x] := by simp
  have p : internal_stringslite_HasSuffix_pre (u ++ [x]) [c] = true := by unfold internal_stringslite_HasSuffix_pre; rw [ew, e1, e2]; rfl
  have v : internal_stringslite_HasSuffix (u ++ [x]) [c] = decide (x = c) := by
    unfold internal_stringslite_HasSuffix; rw [ew, e1, e2, et]
    show ([x] == [c]) = decide (x = c)
    by_cases h : x = c
    · subst h; simp
    · simp [h]
  have e3 : (decide ((0 : Int) ≤ (u.length : Int)) && decide ((u.length : Int) ≤ ((u ++ [x]).length : Int)) && true) = true := by rw [e2]; rfl
  have et2 : List.take ((u.length : Int).toNat - 0) (List.drop 0 (u ++ [x])) = u := by simp
  have pp : internal_stringslite_CutSuffix_pre (u ++ [x]) [c] = true := by
    unfold internal_stringslite_CutSuffix_pre; rw [p, v, ew, e3]; cases decide (x = c) <;> rfl
  have vv : internal_stringslite_CutSuffix (u ++ [x]) [c] = if x = c then (u, true) else (u ++ [x], false) := by
    unfold internal_stringslite_CutSuffix; rw [p, v, ew, e3, et2]
    by_cases h : x = c
    · rw [decide_eq_true h, if_pos h]; rfl
    · rw [decide_eq_false h, if_neg h]; rfl
  unfold strings_CutSuffix_pre strings_CutSuffix
  rw [pp, vv]; exact ⟨rfl, rfl⟩
end Go.Sim.M
