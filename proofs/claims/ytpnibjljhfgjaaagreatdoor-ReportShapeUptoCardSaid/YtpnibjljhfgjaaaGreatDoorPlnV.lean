/- The law on violations. -/
import Derived.Test.YtpnibjljhfgjaaaGreatDoorPlnB
set_option linter.unusedVariables false
set_option linter.unusedSimpArgs false
set_option maxRecDepth 100000
namespace Go.Sim.M
open Go.RowKit Go.Lib

def wNotNull : List UInt8 := [110, 111, 116, 32, 110, 117, 108, 108, 32, 111, 102, 32, 99, 111, 108, 117, 109, 110, 32]
def wKey : List UInt8 := [107, 101, 121]
def wForeign : List UInt8 := [102, 111, 114, 101, 105, 103, 110, 32, 107, 101, 121, 32]
def wCheck : List UInt8 := [99, 104, 101, 99, 107, 32]
def wUnknown : List UInt8 := [117, 110, 107, 110, 111, 119, 110]
def wBy : List UInt8 := [118, 105, 111, 108, 97, 116, 101, 100, 32, 98, 121]
def wDuring : List UInt8 := [100, 117, 114, 105, 110, 103]

/-- What is violated. -/
def what (k : Int) (num : List UInt8) : List UInt8 := if k = 1 then wNotNull ++ num else if k = 2 then wKey else if k = 3 then wForeign ++ num else if k = 4 then wCheck ++ num else wUnknown

noncomputable def vTxt (tb w : List UInt8) (row : Row) (f t : Int) : List UInt8 := tb ++ [58] ++ [32] ++ w ++ [32] ++ wBy ++ [32] ++ ([40] ++ txt row ++ [41]) ++ [32] ++ wDuring ++ [32] ++ pTxt f t ++ [10]

theorem vline (tb w : List UInt8) (row : Row) (f t : Int) (hr : row.wf) (hN : row.length ≤ 100) (ht : tb.length ≤ 2000) (hw : w.length ≤ 100) :
    report_line [32] [AV.str (tb ++ [58]), AV.str w, AV.str wBy, AV.str ([40] ++ txt row ++ [41]), AV.str wDuring, AV.str (pTxt f t)] = some (vTxt tb w row f t) := by
  have h1 := txt_len row hr.2
  have h2 := pTxt_len f t
  have ej : join [tb ++ [58], w, wBy, [40] ++ txt row ++ [41], wDuring, pTxt f t] [32] ++ [10] = vTxt tb w row f t := by
    rw [join_cons]; simp [joinTail, vTxt]
  have el : (join [tb ++ [58], w, wBy, [40] ++ txt row ++ [41], wDuring, pTxt f t] [32]).length ≤ 1000000 := by
    have := congrArg List.length ej
    simp only [List.length_append, List.length_cons, List.length_nil, vTxt] at this
    have hb : wBy.length = 11 := rfl
    have hd : wDuring.length = 6 := rfl
    omega
  unfold report_line report_line_t
  simp only [List.map_cons, List.map_nil, AV.toStr]
  have c1 : ([AV.str (tb ++ [58]), AV.str w, AV.str wBy, AV.str ([40] ++ txt row ++ [41]), AV.str wDuring, AV.str (pTxt f t)].all AV.isStr && (decide ([AV.str (tb ++ [58]), AV.str w, AV.str wBy, AV.str ([40] ++ txt row ++ [41]), AV.str wDuring, AV.str (pTxt f t)].length ≤ 140737488355328) && decide ((join [tb ++ [58], w, wBy, [40] ++ txt row ++ [41], wDuring, pTxt f t] [32]).length ≤ 140737488355328))) = true := by
    simp only [List.all_cons, List.all_nil, AV.isStr, Bool.and_true, Bool.true_and, List.length_cons, List.length_nil, Bool.and_eq_true, decide_eq_true_eq]
    omega
  have c2 : decide ((join [tb ++ [58], w, wBy, [40] ++ txt row ++ [41], wDuring, pTxt f t] [32]).length + 1 ≤ 4611686018427387904) = true := decide_eq_true (by omega)
  rw [c1, c2, ej]; rfl

theorem what_len (k : Int) (num : List UInt8) (h : num.length ≤ 30) : (what k num).length ≤ 100 := by
  unfold what
  split
  · simp [wNotNull]; omega
  · split
    · simp [wKey]
    · split
      · simp [wForeign]; omega
      · split
        · simp [wCheck]; omega
        · simp [wUnknown]

theorem itoa_len' (n : Int) (h1 : -2000000000000000000 ≤ n) (h2 : n ≤ 2000000000000000000) : (itoa n).length ≤ 20 := by
  unfold itoa
  have := dec_len 18 n.natAbs (by omega)
  have := dec_len 18 n.toNat (by omega)
  split <;> simp <;> omega

theorem violated_ok (k : Int) (tb : List UInt8) (ix : Int) (row : Row) (f t : Int) (h1 : -1152921504606846976 ≤ ix) (h2 : ix ≤ 1152921504606846976) : ref55_violated k tb ix (row.map encV) f t = some (what k (itoa (ix + 1))) := by
  have hw : IntKind.i64.wrap (ix + 1) = ix + 1 := wrap_i64 (by omega) (by omega)
  have hl := itoa_len' (ix + 1) (by omega) (by omega)
  have c1 : decide (19 + (itoa (ix + 1)).length ≤ 4611686018427387904) = true := decide_eq_true (by omega)
  have c2 : decide (12 + (itoa (ix + 1)).length ≤ 4611686018427387904) = true := decide_eq_true (by omega)
  have c3 : decide (6 + (itoa (ix + 1)).length ≤ 4611686018427387904) = true := decide_eq_true (by omega)
  unfold ref55_violated ref55_violated_t ref55_violated_v0
  rw [hw, number07_eq (ix + 1) (by omega) (by omega)]
  simp only [br_tt, Option.isSome_some, Option.getD_some, c1, c2, c3]
  unfold what
  by_cases k1 : k = 1
  · subst k1; rfl
  · by_cases k2 : k = 2
    · subst k2; rfl
    · by_cases k3 : k = 3
      · subst k3; rfl
      · by_cases k4 : k = 4
        · subst k4; rfl
        · have b1 : (k == 1) = false := by simpa using k1
          have b2 : (k == 2) = false := by simpa using k2
          have b3 : (k == 3) = false := by simpa using k3
          have b4 : (k == 4) = false := by simpa using k4
          rw [b1, b2, b3, b4, if_neg k1, if_neg k2, if_neg k3, if_neg k4]; rfl

section
variable (k : Int) (tb : List UInt8) (ix : Int) (row : Row) (f t : Int) (hr : row.wf) (hN : row.length ≤ 100) (ht : tb.length ≤ 2000) (h1 : -1152921504606846976 ≤ ix) (h2 : ix ≤ 1152921504606846976)
include hr hN ht h1 h2

theorem violation_ok : report_Violation k tb ix (row.map encV) f t = some (vTxt tb (what k (itoa (ix + 1))) row f t) := by
  have hw : IntKind.i64.wrap (ix + 1) = ix + 1 := wrap_i64 (by omega) (by omega)
  have hl := itoa_len' (ix + 1) (by omega) (by omega)
  have c0 : (decide ((-9223372036854775808 : Int) ≤ ix + 1) && decide (ix + 1 ≤ 9223372036854775807)) = true := by simp; omega
  have c1 : decide (19 + (itoa (ix + 1)).length ≤ 4611686018427387904) = true := decide_eq_true (by omega)
  have c2 : decide (12 + (itoa (ix + 1)).length ≤ 4611686018427387904) = true := decide_eq_true (by omega)
  have c3 : decide (6 + (itoa (ix + 1)).length ≤ 4611686018427387904) = true := decide_eq_true (by omega)
  have c4 : decide (tb.length + 1 ≤ 4611686018427387904) = true := decide_eq_true (by omega)
  have line := fun w hw' => vline tb w row f t hr hN ht hw'
  have hwl := what_len k (itoa (ix + 1)) (by omega)
  have l := line _ hwl
  unfold report_Violation report_Violation_t report_Violation_v0 report_Violation_v1 report_Violation_v2 report_Violation_v3 report_Violation_v4 report_Violation_v5
  rw [hw, text_ok row hr (by omega), ptext_ok, c0, c1, c2, c3, c4]
  simp only [br_tt, Option.isSome_some, Option.getD_some]
  unfold what at l ⊢
  by_cases k1 : k = 1
  · subst k1
    simp only [if_true] at l ⊢
    unfold wNotNull wBy wDuring at l
    rw [l]; rfl
  · by_cases k2 : k = 2
    · subst k2
      simp only [show ¬ ((2 : Int) = 1) by decide, if_false, if_true] at l ⊢
      unfold wKey wBy wDuring at l
      rw [l]; rfl
    · by_cases k3 : k = 3
      · subst k3
        simp only [show ¬ ((3 : Int) = 1) by decide, show ¬ ((3 : Int) = 2) by decide, if_false, if_true] at l ⊢
        unfold wForeign wBy wDuring at l
        rw [l]; rfl
      · by_cases k4 : k = 4
        · subst k4
          simp only [show ¬ ((4 : Int) = 1) by decide, show ¬ ((4 : Int) = 2) by decide, show ¬ ((4 : Int) = 3) by decide, if_false, if_true] at l ⊢
          unfold wCheck wBy wDuring at l
          rw [l]; rfl
        · have b1 : (k == 1) = false := by simpa using k1
          have b2 : (k == 2) = false := by simpa using k2
          have b3 : (k == 3) = false := by simpa using k3
          have b4 : (k == 4) = false := by simpa using k4
          simp only [k1, k2, k3, k4, if_false] at l ⊢
          unfold wUnknown wBy wDuring at l
          rw [b1, b2, b3, b4, l]; rfl

theorem rviolation_ok : ref55_Violation k tb ix (row.map encV) f t = some (vTxt tb (what k (itoa (ix + 1))) row f t) := by
  have hl := itoa_len' (ix + 1) (by omega) (by omega)
  have hwl := what_len k (itoa (ix + 1)) (by omega)
  have h3 := txt_len row hr.2
  have h4 := pTxt_len f t
  unfold ref55_Violation ref55_Violation_t ref55_Violation_v0 ref55_Violation_v1 ref55_Violation_v2 ref55_Violation_v3 ref55_Violation_v4
  rw [violated_ok k tb ix row f t h1 h2, rtext_ok row hr (by omega), rptext_ok]
  simp only [Option.isSome_some, Option.getD_some, br_tt]
  generalize what k (itoa (ix + 1)) = w at hwl
  simp only [br_if]
  rw [if_pos (by simp; omega), if_pos (by simp; omega), if_pos (by simp; omega), if_pos (by simp; omega), if_pos (by simp; omega), if_pos (by simp; omega), if_pos (by simp; omega)]
  simp [vTxt, wBy, wDuring]
end

/-- THE LAW ON VIOLATIONS. -/
theorem law_violations (k : Int) (tb : List UInt8) (ix : Int) (row : Row) (f t : Int) (hr : row.wf) : law55_ReportViolations k tb ix (row.map encV) f t = some true := by
  unfold law55_ReportViolations law55_ReportViolations_t
  rw [List.length_map]
  by_cases hN : (row.length : Int) > 100
  · rw [decide_eq_true hN]; rfl
  rw [decide_eq_false hN]
  by_cases ht : (tb.length : Int) > 2000
  · rw [decide_eq_true ht]; rfl
  rw [decide_eq_false ht]
  obtain ⟨b, hb, hall⟩ := tame_ok [ix] (by simp)
  have hb' : law55_tame [AV.int .i64 ix] = some b := hb
  rw [hb']
  cases b with
  | false => rfl
  | true =>
    obtain ⟨g1, g2⟩ := hall rfl ix (by simp)
    rw [violation_ok k tb ix row f t hr (by omega) (by omega) g1 g2, rviolation_ok k tb ix row f t hr (by omega) (by omega) g1 g2]
    simp [br_if]
end Go.Sim.M
