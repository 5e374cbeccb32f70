/- The plain laws of three-valued logic. -/
import Derived.Test.YtkoepgogaojgmaaDoorL4
set_option linter.unusedVariables false
set_option linter.unusedSimpArgs false
set_option maxRecDepth 100000
namespace Go.Sim.M
open Go.RowKit

theorem normal_cases (t : Int) : (value_normal t = 0 ∧ t = 0) ∨ (value_normal t = 2 ∧ t = 2) ∨ (value_normal t = 1 ∧ t ≠ 0 ∧ t ≠ 2) := by
  unfold value_normal
  by_cases h0 : t = 0
  · subst h0; exact .inl ⟨rfl, rfl⟩
  · by_cases h2 : t = 2
    · subst h2; exact .inr (.inl ⟨rfl, rfl⟩)
    · refine .inr (.inr ⟨?_, h0, h2⟩)
      have e0 : (t != 0) = true := by simpa using h0
      have e2 : (t != 2) = true := by simpa using h2
      rw [e0, e2]; rfl

theorem algebra (a b c : Int) : law07_ValueAlgebra a b c = true := by
  have na := normal_cases a
  have nb := normal_cases b
  have nc := normal_cases c
  unfold law07_ValueAlgebra value_Or value_And value_Not value_least2
  rcases na with ⟨na, _⟩ | ⟨na, _⟩ | ⟨na, _⟩ <;> rcases nb with ⟨nb, _⟩ | ⟨nb, _⟩ | ⟨nb, _⟩ <;> rcases nc with ⟨nc, _⟩ | ⟨nc, _⟩ | ⟨nc, _⟩ <;> rw [na, nb, nc] <;> decide +kernel

theorem logic_not (a : Int) : value_Not a = ref07_Not a := by
  unfold value_Not ref07_Not
  rcases normal_cases a with ⟨na, ha⟩ | ⟨na, ha⟩ | ⟨na, h0, h2⟩ <;> rw [na]
  · subst ha; decide +kernel
  · subst ha; decide +kernel
  · have e0 : (a == 0) = false := by simpa using h0
    have e2 : (a == 2) = false := by simpa using h2
    rw [e0, e2]; decide +kernel

theorem logic_and (a b : Int) : value_And a b = ref07_And a b := by
  unfold value_And value_least2 ref07_And
  rcases normal_cases a with ⟨na, ha⟩ | ⟨na, ha⟩ | ⟨na, h0, h2⟩ <;> rcases normal_cases b with ⟨nb, hb⟩ | ⟨nb, hb⟩ | ⟨nb, g0, g2⟩ <;> rw [na, nb] <;> (try subst ha) <;> (try subst hb) <;>
    (try have e0 : (a == 0) = false := by simpa using h0) <;> (try have e2 : (a == 2) = false := by simpa using h2) <;> (try have f0 : (b == 0) = false := by simpa using g0) <;> (try have f2 : (b == 2) = false := by simpa using g2) <;>
    (try rw [e0]) <;> (try rw [e2]) <;> (try rw [f0]) <;> (try rw [f2]) <;> (try simp only [br]) <;> decide +kernel

theorem logic_or (a b : Int) : value_Or a b = ref07_Or a b := by
  unfold value_Or value_least2 value_Not ref07_Or
  rcases normal_cases a with ⟨na, ha⟩ | ⟨na, ha⟩ | ⟨na, h0, h2⟩ <;> rcases normal_cases b with ⟨nb, hb⟩ | ⟨nb, hb⟩ | ⟨nb, g0, g2⟩ <;> rw [na, nb] <;> (try subst ha) <;> (try subst hb) <;>
    (try have e0 : (a == 0) = false := by simpa using h0) <;> (try have e2 : (a == 2) = false := by simpa using h2) <;> (try have f0 : (b == 0) = false := by simpa using g0) <;> (try have f2 : (b == 2) = false := by simpa using g2) <;>
    (try rw [e0]) <;> (try rw [e2]) <;> (try rw [f0]) <;> (try rw [f2]) <;> (try simp only [br]) <;> decide +kernel

theorem logic_of (a : Int) : value_Of a = ref07_Of a := by
  unfold value_Of ref07_Of
  rcases normal_cases a with ⟨na, ha⟩ | ⟨na, ha⟩ | ⟨na, h0, h2⟩ <;> rw [na]
  · subst ha; decide +kernel
  · subst ha; decide +kernel
  · have e0 : (a == 0) = false := by simpa using h0
    have e2 : (a == 2) = false := by simpa using h2
    rw [e0, e2]; decide +kernel

theorem logic (a b : Int) (k i : Int) (t : List UInt8) : law07_ValueLogic a b k i t = true := by
  unfold law07_ValueLogic
  rw [logic_not, logic_and, logic_or, logic_of]
  have e : value_Truth k i t = ref07_Truth k i t := rfl
  rw [e]
  simp [br]
end Go.Sim.M
