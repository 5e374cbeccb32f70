/- The laws of literals. -/
import Derived.Test.YtkoepgogaojgmaaDoorPlainJ
set_option linter.unusedVariables false
set_option linter.unusedSimpArgs false
set_option maxRecDepth 100000
namespace Go.Sim.M
open Go.RowKit Go.Lib

inductive VForm (k i : Int) (t : List UInt8) : Prop where
  | null (h1 : k = 0) (h2 : i = 0) (h3 : t = [])
  | int (h1 : k = 1) (h2 : t = []) (h3 : -1125899906842624 ≤ i) (h4 : i ≤ 1125899906842624)
  | text (h1 : k = 2) (h2 : i = 0) (h3 : t.length ≤ 200) (h4 : t.all okb = true)
  | bool (h1 : k = 3) (h2 : t = []) (h3 : i = 0 ∨ i = 1)

theorem valid_form {k i : Int} {t : List UInt8} (h : value_Valid k i t = true) : VForm k i t := by
  unfold value_Valid at h
  by_cases k0 : k = 0
  · subst k0
    by_cases i0 : i = 0
    · subst i0; exact .null rfl rfl (by simpa [br_if] using h)
    · simp [br_if, i0] at h
  · by_cases k1 : k = 1
    · subst k1
      by_cases t0 : t = []
      · subst t0
        simp only [br_if] at h
        have h : -1125899906842624 ≤ i ∧ i ≤ 1125899906842624 := by simpa using h
        exact .int rfl rfl h.1 h.2
      · simp [br_if, t0] at h
    · by_cases k2 : k = 2
      · subst k2
        by_cases i0 : i = 0
        · subst i0
          by_cases hl : t.length ≤ 200
          · have e : decide ((t.length : Int) ≤ 200) = true := decide_eq_true (by omega)
            rw [e, pp_pre (le200 e), pp_eq (le200 e)] at h
            exact .text rfl rfl hl h
          · have e : decide ((t.length : Int) ≤ 200) = false := decide_eq_false (by omega)
            rw [e] at h; simp [br_if] at h
        · simp [br_if, i0] at h
      · by_cases k3 : k = 3
        · subst k3
          by_cases t0 : t = []
          · subst t0
            by_cases i0 : i = 0
            · exact .bool rfl rfl (.inl i0)
            · by_cases i1 : i = 1
              · exact .bool rfl rfl (.inr i1)
              · simp [br_if, i0, i1] at h
          · simp [br_if, t0] at h
        · simp [br_if, k0, k1, k2, k3] at h

def quoteV (t : List UInt8) : List UInt8 := [39] ++ t.flatMap qb ++ [39]

theorem qb_len : ∀ t : List UInt8, (t.flatMap qb).length ≤ 2 * t.length
  | [] => by simp
  | c :: t => by
    have := qb_len t
    simp only [List.flatMap_cons, List.length_append, List.length_cons]
    have : (qb c).length ≤ 2 := by unfold qb; split <;> simp
    omega

theorem quote_eq (t : List UInt8) (h : t.length ≤ big) : ref07_Quote_pre t = true ∧ ref07_Quote t = quoteV t := by
  unfold big at h
  have hq := qb_len t
  have c1 : (decide (t.length ≤ 1152921504606846976) && true) = true := by simp; omega
  have c2 : decide (([(39 : UInt8)] ++ List.flatMap qb (List.drop 0 t)).length + 1 ≤ 4611686018427387904) = true := decide_eq_true (by simp only [List.drop_zero, List.length_append, List.length_cons, List.length_nil]; omega)
  unfold ref07_Quote_pre ref07_Quote
  rw [c1, c2]; exact ⟨rfl, rfl⟩

/-- A value's literal. -/
def litV (k i : Int) (t : List UInt8) : List UInt8 := if k = 0 then wNULL else if k = 1 then itoa i else if k = 2 then quoteV t else if i = 1 then wTRUE else wFALSE

theorem literal_valid {k i : Int} {t : List UInt8} (hv : value_Valid k i t = true) : value_Literal_pre k i t = true ∧ value_Literal k i t = litV k i t := by
  unfold value_Literal_pre value_Literal litV
  rw [valid_pre, hv]
  cases valid_form hv with
  | null h1 h2 h3 => subst h1 h2 h3; exact ⟨rfl, rfl⟩
  | int h1 h2 h3 h4 =>
    subst h1 h2
    have e : (decide (-9223372036854775808 ≤ i) && decide (i ≤ 9223372036854775807)) = true := by simp; omega
    rw [e]; exact ⟨rfl, rfl⟩
  | text h1 h2 h3 h4 =>
    subst h1 h2
    have hc := count_le [39] (by simp) _ t (Nat.le_refl _)
    have hq := qb_len t
    have e1 : (decide (t.length < 4294967281) && decide (t.length + count t [39] * 2 ≤ 140737488355328)) = true := by simp; omega
    have e2 : decide (1 + (t.flatMap qb).length ≤ 4611686018427387904) = true := decide_eq_true (by omega)
    have e3 : decide (([(39 : UInt8)] ++ t.flatMap qb).length + 1 ≤ 4611686018427387904) = true := decide_eq_true (by simp only [List.length_append, List.length_cons, List.length_nil]; omega)
    rw [e1, repl_quote, e2, e3]; exact ⟨rfl, rfl⟩
  | bool h1 h2 h3 => subst h1 h2; rcases h3 with rfl | rfl <;> exact ⟨rfl, rfl⟩

theorem refliteral_valid {k i : Int} {t : List UInt8} (hv : value_Valid k i t = true) : ref07_Literal_pre k i t = true ∧ ref07_Literal k i t = litV k i t := by
  unfold ref07_Literal_pre ref07_Literal litV
  rw [rvalid_pre, ← valid_ref, hv]
  cases valid_form hv with
  | null h1 h2 h3 => subst h1 h2 h3; exact ⟨rfl, rfl⟩
  | int h1 h2 h3 h4 =>
    subst h1 h2
    obtain ⟨p, v⟩ := number07_eq i h3 h4
    rw [p, v]; exact ⟨rfl, rfl⟩
  | text h1 h2 h3 h4 =>
    subst h1 h2
    obtain ⟨p, v⟩ := quote_eq t (by unfold big; omega)
    rw [p, v]; exact ⟨rfl, rfl⟩
  | bool h1 h2 h3 => subst h1 h2; rcases h3 with rfl | rfl <;> exact ⟨rfl, rfl⟩

theorem literal_all (k i : Int) (t : List UInt8) : value_Literal_pre k i t = true ∧ ref07_Literal_pre k i t = true ∧ value_Literal k i t = ref07_Literal k i t := by
  cases hv : value_Valid k i t with
  | true =>
    obtain ⟨p, v⟩ := literal_valid hv
    obtain ⟨p', v'⟩ := refliteral_valid hv
    exact ⟨p, p', v.trans v'.symm⟩
  | false =>
    unfold value_Literal_pre value_Literal ref07_Literal_pre ref07_Literal
    rw [valid_pre, rvalid_pre, ← valid_ref, hv]; exact ⟨rfl, rfl, rfl⟩

section
variable (k i : Int) (t s : List UInt8)
theorem literals_both : law07_ValueLiterals_pre k i t s = true ∧ law07_ValueLiterals k i t s = true := by
  unfold law07_ValueLiterals_pre law07_ValueLiterals
  cases ht : decide ((t.length : Int) > 2000) with
  | true => exact ⟨rfl, rfl⟩
  | false =>
    cases hs : decide ((s.length : Int) > 2000) with
    | true => exact ⟨rfl, rfl⟩
    | false =>
      have hs' : ¬ (s.length : Int) > 2000 := of_decide_eq_false hs
      have hb : s.length ≤ big := by unfold big; omega
      obtain ⟨p1, v1⟩ := parse_eq s hb
      obtain ⟨p2, p3, v3⟩ := literal_all k i t
      rw [p1, v1, refparse_pre s hb, refparse_eq s hb, p2, p3, v3]
      simp [br]
theorem literals_pre : law07_ValueLiterals_pre k i t s = true := (literals_both k i t s).1
theorem literals : law07_ValueLiterals k i t s = true := (literals_both k i t s).2
end
end Go.Sim.M
