/- The law of literals: both readers agree, both writers agree. -/
import Derived.Test.YtkoepgogaojgmaaDoorPlainH
set_option linter.unusedVariables false
set_option linter.unusedSimpArgs false
set_option maxRecDepth 100000
namespace Go.Sim.M
open Go.RowKit Go.Lib

def unqV : List UInt8 → List UInt8 × Bool
  | [] => ([], false)
  | b :: r => match r.getLast? with
    | none => ([], false)
    | some x => if b = 39 ∧ x = 39 ∧ unqOk r.dropLast = true then (unq r.dropLast, (unq r.dropLast).all okb) else ([], false)

theorem unquote_eq (s : List UInt8) (h : s.length ≤ big) : ref07_unquote_pre s = true ∧ ref07_unquote s = unqV s := by
  match s, h with
  | [], _ => exact unquote_short.1
  | b :: r, h =>
    rcases List.eq_nil_or_concat r with rfl | ⟨u, x, rfl⟩
    · exact unquote_short.2 b
    · rw [List.concat_eq_append] at h ⊢
      have hl : u.length ≤ big := by simp only [List.length_cons, List.length_append] at h; omega
      obtain ⟨p, v⟩ := unquote_long b x u hl
      refine ⟨p, v.trans ?_⟩
      simp only [unqV, List.getLast?_append, List.getLast?_singleton, Option.some_or, List.dropLast_concat]

theorem restV_dig {s : List UInt8} (h : (unqV s).2 = false) : restV s = digV s := by
  match s, h with
  | [], _ => rfl
  | b :: r, h =>
    simp only [restV, digV]
    by_cases hb : b = 39
    · subst hb
      rw [if_pos rfl, if_neg (by decide), num39]
      cases hr : r.getLast? with
      | none => rfl
      | some x =>
        simp only
        by_cases hx : x = 39
        · rw [if_pos hx]
          simp only [unqV, hr] at h
          cases hu : unqOk r.dropLast with
          | false => unfold textV; rw [hu, Bool.and_false]; rfl
          | true =>
            rw [if_pos (by simp [hx, hu])] at h
            have h : r.dropLast.all okb = false := by rw [← unq_all _ hu]; exact h
            unfold textV
            rw [h]; rfl
        · rw [if_neg hx]
    · rw [if_neg hb]

theorem restV_text {s : List UInt8} (h : (unqV s).2 = true) : restV s = br (decide (((unqV s).1.length : Int) > 200)) (errV 5) (2, 0, (unqV s).1, 0) ∧ ((unqV s).1).all okb = true := by
  match s, h with
  | [], h => simp [unqV] at h
  | b :: r, h =>
    rcases List.eq_nil_or_concat r with rfl | ⟨u, x, rfl⟩
    · simp [unqV] at h
    · rw [List.concat_eq_append] at h ⊢
      have eu : unqV (b :: (u ++ [x])) = if b = 39 ∧ x = 39 ∧ unqOk u = true then (unq u, (unq u).all okb) else ([], false) := by
        simp only [unqV, List.getLast?_append, List.getLast?_singleton, Option.some_or, List.dropLast_concat]
      have er : restV (b :: (u ++ [x])) = if b = 39 then (if x = 39 then textV u else errV 1) else if b = 45 then numV (u ++ [x]) true else numV (b :: (u ++ [x])) false := by
        simp only [restV, List.getLast?_append, List.getLast?_singleton, Option.some_or, List.dropLast_concat]
      rw [eu] at h ⊢
      rw [er]
      by_cases hc : b = 39 ∧ x = 39 ∧ unqOk u = true
      · rw [if_pos hc] at h ⊢
        obtain ⟨hb, hx, hu⟩ := hc
        have h : (unq u).all okb = true := h
        refine ⟨?_, h⟩
        rw [if_pos hb, if_pos hx]
        unfold textV
        rw [hu, ← unq_all _ hu, h]
        simp only [Bool.and_true, br_tt]
        by_cases hl : (unq u).length ≤ 200
        · rw [decide_eq_true hl, decide_eq_false (show ¬ ((unq u).length : Int) > 200 by omega)]; rfl
        · rw [decide_eq_false hl, decide_eq_true (show ((unq u).length : Int) > 200 by omega)]; rfl
      · rw [if_neg hc] at h; simp at h

theorem np {d : List UInt8} (h : d.length ≤ big) : ref07_number_pre d = true := (number_of d h).1

theorem refparse_pre (s : List UInt8) (h : s.length ≤ big) : ref07_Parse_pre s = true := by
  unfold ref07_Parse_pre
  rw [(unquote_eq s h).1]
  have n1 := np h
  have n2 : ref07_number_pre (List.take (s.length - 1) (List.drop 1 s)) = true := np (Nat.le_trans (List.length_take_le _ _) (by omega))
  simp only [rtext_pre, rint_pre, n1, n2, br_same, br_tt]
  match s with
  | [] =>
    have e : (!([] : List UInt8) == []) = false := rfl
    simp only [e, br_ff, br_same]
  | b :: r =>
    have e1 : decide ((0 : Int) < ((b :: r).length : Int)) = true := decide_eq_true (by simp only [List.length_cons]; omega)
    have e2 : decide ((1 : Int) ≤ ((b :: r).length : Int)) = true := decide_eq_true (by simp only [List.length_cons]; omega)
    simp only [e1, e2, br_tt, br_same]

theorem refparse_eq (s : List UInt8) (h : s.length ≤ big) : ref07_Parse s = parseV s := by
  unfold ref07_Parse parseV wNULL wTRUE wFALSE
  obtain ⟨p, v⟩ := unquote_eq s h
  rw [p, v]
  cases h0 : (s == [78, 85, 76, 76]) with
  | true => rfl
  | false =>
    cases h1 : (s == [84, 82, 85, 69]) with
    | true => rfl
    | false =>
      cases h2 : (s == [70, 65, 76, 83, 69]) with
      | true => rfl
      | false =>
        simp only [br_ff, br_tt]
        cases hq : (unqV s).2 with
        | true =>
          obtain ⟨e, ha⟩ := restV_text hq
          rw [e]
          simp only [br_tt, rtext_pre]
          cases hl : decide (((unqV s).1.length : Int) > 200) with
          | true => rfl
          | false =>
            have : ¬ ((unqV s).1.length : Int) > 200 := of_decide_eq_false hl
            rw [text_in (by omega) ha]; rfl
        | false =>
          rw [restV_dig hq]
          simp only [br_ff]
          match s, h with
          | [], h =>
            have e : (!([] : List UInt8) == []) = false := rfl
            rw [e]; simp only [br_ff]
            exact refpos [] h
          | b :: r, h =>
            have e0 : (!(b :: r) == []) = true := rfl
            have e1 : decide ((0 : Int) < ((b :: r).length : Int)) = true := decide_eq_true (by simp only [List.length_cons]; omega)
            have e2 : decide ((1 : Int) ≤ ((b :: r).length : Int)) = true := decide_eq_true (by simp only [List.length_cons]; omega)
            have et : List.take ((b :: r).length - 1) (List.drop 1 (b :: r)) = r := by simp
            have g : (b :: r).getD 0 0 = b := rfl
            rw [e0, e1, e2, et, g, byte45]
            by_cases hm : b = 45
            · rw [decide_eq_true hm]
              simp only [br_tt, digV, if_pos hm]
              exact refneg r (by simp only [List.length_cons] at h; omega)
            · rw [decide_eq_false hm]
              simp only [br_tt, br_ff, digV, if_neg hm]
              exact refpos (b :: r) h
end Go.Sim.M
