/- The plain law of the constructors of values. -/
import Derived.Test.YtkoepgogaojgmaaDoorL13
set_option linter.unusedVariables false
set_option linter.unusedSimpArgs false
set_option maxRecDepth 100000
namespace Go.Sim.M
open Go.RowKit

theorem pp_pre {s : List UInt8} (h : s.length ≤ strMax) : value_printable_pre s = true := by
  have e : decide (s.length ≤ 4611686018427387904) = true := decide_eq_true h
  unfold value_printable_pre; rw [e]; simp [br_if]
theorem pp_eq {s : List UInt8} (h : s.length ≤ strMax) : value_printable s = s.all okb := by
  have e : decide (s.length ≤ 4611686018427387904) = true := decide_eq_true h
  unfold value_printable; rw [e]; have f : ((s.length : Int) == (s.length : Int)) = true := by simp
  rw [f]; show br (s.all okb) true false = _; cases s.all okb <;> rfl
theorem rp_pre {s : List UInt8} (h : s.length ≤ strMax) : ref07_Printable_pre s = true := by
  have e : decide (s.length ≤ 4611686018427387904) = true := decide_eq_true h
  unfold ref07_Printable_pre; rw [e]; simp [br_if]
theorem rp_eq {s : List UInt8} (h : s.length ≤ strMax) : ref07_Printable s = s.all okb := by
  have e : decide (s.length ≤ 4611686018427387904) = true := decide_eq_true h
  unfold ref07_Printable; rw [e]; show br (s.all okb) true false = _; cases s.all okb <;> rfl

theorem le200 {s : List UInt8} (h : decide ((s.length : Int) ≤ 200) = true) : s.length ≤ strMax := by
  have : (s.length : Int) ≤ 200 := of_decide_eq_true h
  unfold strMax; omega

theorem br_same {α : Type} (t : Bool) (a : α) : br t a a = a := by cases t <;> rfl

theorem valid_pre (k i : Int) (t : List UInt8) : value_Valid_pre k i t = true := by
  unfold value_Valid_pre
  have e : br (decide ((t.length : Int) ≤ 200)) (br (value_printable_pre t) true false) true = true := by
    cases h : decide ((t.length : Int) ≤ 200) with
    | true => rw [pp_pre (le200 h)]; rfl
    | false => rfl
  rw [e]; simp only [br_same]
theorem rvalid_pre (k i : Int) (t : List UInt8) : ref07_Valid_pre k i t = true := by
  unfold ref07_Valid_pre
  have e : br (decide ((t.length : Int) ≤ 200)) (br (ref07_Printable_pre t) true false) true = true := by
    cases h : decide ((t.length : Int) ≤ 200) with
    | true => rw [rp_pre (le200 h)]; rfl
    | false => rfl
  rw [e]; simp only [br_same]

theorem valid_ref (k i : Int) (t : List UInt8) : value_Valid k i t = ref07_Valid k i t := by
  unfold value_Valid ref07_Valid
  have e : br (decide ((t.length : Int) ≤ 200)) (br (value_printable_pre t) (value_printable t) false) false = br (decide ((t.length : Int) ≤ 200)) (br (ref07_Printable_pre t) (ref07_Printable t) false) false := by
    cases h : decide ((t.length : Int) ≤ 200) with
    | true => rw [pp_pre (le200 h), rp_pre (le200 h), pp_eq (le200 h), rp_eq (le200 h)]
    | false => rfl
  rw [e]

theorem orNull_pre (k i : Int) (t : List UInt8) : value_orNull_pre k i t = true := by
  unfold value_orNull_pre; rw [valid_pre]; simp only [br_same]; rfl
theorem rorNull_pre (k i : Int) (t : List UInt8) : ref07_valid_pre k i t = true := by
  unfold ref07_valid_pre; rw [rvalid_pre]; simp only [br_same]; rfl
theorem orNull_ref (k i : Int) (t : List UInt8) : value_orNull k i t = ref07_valid k i t := by
  unfold value_orNull ref07_valid
  rw [valid_pre, rvalid_pre, valid_ref]
  cases ref07_Valid k i t <;> rfl

theorem int_pre (n : Int) : value_Int_pre n = true := by unfold value_Int_pre; rw [orNull_pre]; rfl
theorem rint_pre (n : Int) : ref07_Int_pre n = true := by unfold ref07_Int_pre; rw [rorNull_pre]; rfl
theorem int_ref (n : Int) : value_Int n = ref07_Int n := by unfold value_Int ref07_Int; rw [orNull_pre, rorNull_pre, orNull_ref]
theorem text_pre (n : List UInt8) : value_Text_pre n = true := by unfold value_Text_pre; rw [orNull_pre]; rfl
theorem rtext_pre (n : List UInt8) : ref07_Text_pre n = true := by unfold ref07_Text_pre; rw [rorNull_pre]; rfl
theorem text_ref (n : List UInt8) : value_Text n = ref07_Text n := by unfold value_Text ref07_Text; rw [orNull_pre, rorNull_pre, orNull_ref]

section
variable (k i : Int) (t : List UInt8) (n : Int) (s : List UInt8) (b : Bool)
theorem constructs_pre : law07_ValueConstructs_pre k i t n s b = true := by
  unfold law07_ValueConstructs_pre
  rw [valid_pre, rvalid_pre, int_pre, rint_pre, text_pre, rtext_pre]
  simp only [br_same, br_tt]
theorem constructs : law07_ValueConstructs k i t n s b = true := by
  unfold law07_ValueConstructs
  have e : value_Bool b = ref07_Bool b := rfl
  rw [valid_pre, rvalid_pre, int_pre, rint_pre, text_pre, rtext_pre, valid_ref, int_ref, text_ref, e]
  simp [br]
end
end Go.Sim.M
