/- Reading and writing of values: both readers agree, both writers agree. -/
import Derived.Test.YtkoepgogaojgmaaDoorPlainG
set_option linter.unusedVariables false
set_option linter.unusedSimpArgs false
set_option maxRecDepth 100000
namespace Go.Sim.M
open Go.RowKit Go.Lib

def wNULL : List UInt8 := [78, 85, 76, 76]
def wTRUE : List UInt8 := [84, 82, 85, 69]
def wFALSE : List UInt8 := [70, 65, 76, 83, 69]

/-- What a text reads as, if it is none of the three words. -/
def restV (s : List UInt8) : Int × Int × List UInt8 × Int :=
  match s with
  | [] => errV 1
  | b :: r => if b = 39 then (match r.getLast? with
      | some x => if x = 39 then textV r.dropLast else errV 1
      | none => errV 1)
    else if b = 45 then numV r true else numV (b :: r) false

def parseV (s : List UInt8) : Int × Int × List UInt8 × Int :=
  br (s == wNULL) (0, 0, [], 0) (br (s == wTRUE) (3, 1, [], 0) (br (s == wFALSE) (3, 0, [], 0) (restV s)))

theorem parse_eq (s : List UInt8) (h : s.length ≤ big) : value_Parse_pre s = true ∧ value_Parse s = parseV s := by
  have hb : big = 4294967000 := rfl
  unfold value_Parse_pre value_Parse parseV wNULL wTRUE wFALSE
  cases h0 : (s == [78, 85, 76, 76]) with
  | true => first | exact ⟨rfl, rfl⟩ | exact ⟨trivial, rfl⟩ | exact ⟨trivial, trivial⟩
  | false =>
    cases h1 : (s == [84, 82, 85, 69]) with
    | true => first | exact ⟨rfl, rfl⟩ | exact ⟨trivial, rfl⟩ | exact ⟨trivial, trivial⟩
    | false =>
      cases h2 : (s == [70, 65, 76, 83, 69]) with
      | true => first | exact ⟨rfl, rfl⟩ | exact ⟨trivial, rfl⟩ | exact ⟨trivial, trivial⟩
      | false =>
        simp only [br_ff]
        match s with
        | [] =>
          obtain ⟨p, v⟩ := hp_nil 39
          obtain ⟨p', v'⟩ := parseInt_of (cp_nil 45).1 (cp_nil 45).2 (by rw [hb]; simp)
          rw [p, v, p', v']; first | exact ⟨rfl, rfl⟩ | exact ⟨trivial, rfl⟩ | exact ⟨trivial, trivial⟩
        | b :: r =>
          obtain ⟨p, v⟩ := hp_cons 39 b r
          rw [p, v]
          simp only [br_tt]
          by_cases hq : b = 39
          · have e1 : decide ((1 : Int) ≤ ((b :: r).length : Int)) = true := decide_eq_true (by simp only [List.length_cons]; omega)
            have et : List.take ((b :: r).length - 1) (List.drop 1 (b :: r)) = r := by simp
            rw [decide_eq_true hq, e1, et]
            simp only [br_tt]
            rcases List.eq_nil_or_concat r with rfl | ⟨u, x, rfl⟩
            · rw [parseText_nil.1, parseText_nil.2]; subst hq; first | exact ⟨rfl, rfl⟩ | exact ⟨trivial, rfl⟩ | exact ⟨trivial, trivial⟩
            · have hl : u.length ≤ big := by simp only [List.concat_eq_append, List.length_cons, List.length_append] at h; omega
              rw [List.concat_eq_append]
              obtain ⟨p2, v2⟩ := parseText_snoc u x hl
              rw [p2, v2]
              simp only [br_tt, restV, if_pos hq]
              first | refine ⟨rfl, ?_⟩ | refine ⟨trivial, ?_⟩
              simp only [List.getLast?_append, List.getLast?_singleton, Option.some_or, List.dropLast_concat]
          · rw [decide_eq_false hq]
            simp only [br_ff]
            obtain ⟨p2, v2⟩ := cp_cons 45 b r
            by_cases hm : b = 45
            · rw [if_pos hm] at v2
              obtain ⟨p3, v3⟩ := parseInt_of p2 v2 (by simp only [List.length_cons] at h; omega)
              rw [p3, v3]
              simp only [br_tt, restV, if_neg hq, if_pos hm]
              first | exact ⟨rfl, rfl⟩ | exact ⟨trivial, rfl⟩ | exact ⟨trivial, trivial⟩
            · rw [if_neg hm] at v2
              obtain ⟨p3, v3⟩ := parseInt_of p2 v2 h
              rw [p3, v3]
              simp only [br_tt, restV, if_neg hq, if_neg hm]
              first | exact ⟨rfl, rfl⟩ | exact ⟨trivial, rfl⟩ | exact ⟨trivial, trivial⟩

theorem isD_not39 : isD 39 = false := by decide
theorem isD_not45 : isD 45 = false := by decide

theorem numR_neg (d : List UInt8) : br (!(numR d).2) (errV 1) (br ((numR d).1 == 0) (errV 1) (br (decide ((numR d).1 > 1125899906842624)) (errV 6) (1, -((numR d).1), [], 0))) = numV d true := by
  unfold numR numV
  cases hd : d == [] with
  | true => rfl
  | false =>
    cases ha : d.all isD with
    | false => cases decide (d.getD 0 0 = 48) <;> cases decide (1 < d.length) <;> rfl
    | true =>
      cases hz : decide (d.getD 0 0 = 48) with
      | false =>
        have hne : d ≠ [] := by simpa using hd
        match d, hne with
        | c :: r, _ =>
          have hc : c ≠ 48 := by simpa using hz
          have := fold_lead ha hc
          have e : (foldV (c :: r) == 0) = false := by simp; omega
          simp only [br_tt, br_ff, Bool.false_and, Bool.not_true, e]
      | true =>
        cases hl : decide (1 < d.length) with
        | true => rfl
        | false =>
          have hne : d ≠ [] := by simpa using hd
          match d, hne with
          | [c], _ =>
            have hc : c = 48 := by simpa using hz
            subst hc; rfl
          | c :: c2 :: r, _ => simp at hl

theorem numR_pos (d : List UInt8) : br (!(numR d).2) (errV 1) (br (decide ((numR d).1 > 1125899906842624)) (errV 6) (1, (numR d).1, [], 0)) = numV d false := by
  unfold numR numV
  cases hd : d == [] with
  | true => rfl
  | false =>
    cases ha : d.all isD with
    | false => cases decide (d.getD 0 0 = 48) <;> cases decide (1 < d.length) <;> rfl
    | true => cases decide (d.getD 0 0 = 48) <;> cases decide (1 < d.length) <;> rfl

theorem numR_range (d : List UInt8) : 0 ≤ (numR d).1 ∧ (numR d).1 ≤ 1125899906842625 := by
  unfold numR
  have z : 0 ≤ (0 : Int) ∧ (0 : Int) ≤ 1125899906842625 := by decide
  cases hd : d == [] with
  | true => exact z
  | false =>
    cases ha : d.all isD with
    | false => cases decide (d.getD 0 0 = 48) <;> cases decide (1 < d.length) <;> exact z
    | true =>
      have hr := fold_range d 0 ha z
      cases decide (d.getD 0 0 = 48) <;> cases decide (1 < d.length) <;> first | exact hr | exact z

theorem refneg (d : List UInt8) (h : d.length ≤ big) :
    br (ref07_number_pre d) (br (!(ref07_number d).snd) ((0 : Int), (0 : Int), ([] : List UInt8), (1 : Int)) (br ((ref07_number d).fst == 0) (0, 0, [], 1) (br (decide ((ref07_number d).fst > 1125899906842624)) (0, 0, [], 6)
      (br (ref07_Int_pre (IntKind.i64.wrap (0 - (ref07_number d).fst))) ((ref07_Int (IntKind.i64.wrap (0 - (ref07_number d).fst))).fst, (ref07_Int (IntKind.i64.wrap (0 - (ref07_number d).fst))).snd.fst, (ref07_Int (IntKind.i64.wrap (0 - (ref07_number d).fst))).snd.snd, 0) (0, 0, [], 0))))) (0, 0, [], 0) = numV d true := by
  obtain ⟨p, v⟩ := number_of d h
  have hr := numR_range d
  rw [p, v, ← numR_neg]
  have ew : IntKind.i64.wrap (0 - (numR d).1) = -(numR d).1 := by rw [wrap_i64 (by omega) (by omega)]; omega
  rw [ew, rint_pre]
  simp only [br_tt]
  congr 2
  cases hg : decide ((numR d).1 > 1125899906842624) with
  | true => rfl
  | false =>
    have : ¬ (numR d).1 > 1125899906842624 := of_decide_eq_false hg
    rw [int_in (by omega) (by omega)]; rfl

theorem refpos (d : List UInt8) (h : d.length ≤ big) :
    br (ref07_number_pre d) (br (!(ref07_number d).snd) ((0 : Int), (0 : Int), ([] : List UInt8), (1 : Int)) (br (decide ((ref07_number d).fst > 1125899906842624)) (0, 0, [], 6)
      (br (ref07_Int_pre (ref07_number d).fst) ((ref07_Int (ref07_number d).fst).fst, (ref07_Int (ref07_number d).fst).snd.fst, (ref07_Int (ref07_number d).fst).snd.snd, 0) (0, 0, [], 0)))) (0, 0, [], 0) = numV d false := by
  obtain ⟨p, v⟩ := number_of d h
  have hr := numR_range d
  rw [p, v, ← numR_pos, rint_pre]
  simp only [br_tt]
  congr 1
  cases hg : decide ((numR d).1 > 1125899906842624) with
  | true => rfl
  | false =>
    have : ¬ (numR d).1 > 1125899906842624 := of_decide_eq_false hg
    rw [int_in (by omega) (by omega)]; rfl

theorem num39 (r : List UInt8) : numV (39 :: r) false = errV 1 := by
  unfold numV
  have e : (39 :: r).all isD = false := by simp [isD_not39]
  rw [e]; rfl

theorem num_nil (neg : Bool) : numV [] neg = errV 1 := rfl

def digV : List UInt8 → Int × Int × List UInt8 × Int
  | [] => errV 1
  | b :: r => if b = 45 then numV r true else numV (b :: r) false

/-- The reference's reader behind the three words and the quoted texts. -/
theorem refrest (s : List UInt8) (h : s.length ≤ big) {X : Int × Int × List UInt8 × Int}
    (hX : X = br (!s == []) (br (decide ((0 : Int) < (s.length : Int))) (br (((s.getD 0 0).toNat : Int) == 45) (br (decide ((1 : Int) ≤ (s.length : Int)))
      (br (ref07_number_pre (List.take (s.length - 1) (List.drop 1 s))) (br (!(ref07_number (List.take (s.length - 1) (List.drop 1 s))).snd) ((0 : Int), (0 : Int), ([] : List UInt8), (1 : Int)) (br ((ref07_number (List.take (s.length - 1) (List.drop 1 s))).fst == 0) (0, 0, [], 1) (br (decide ((ref07_number (List.take (s.length - 1) (List.drop 1 s))).fst > 1125899906842624)) (0, 0, [], 6)
        (br (ref07_Int_pre (IntKind.i64.wrap (0 - (ref07_number (List.take (s.length - 1) (List.drop 1 s))).fst))) ((ref07_Int (IntKind.i64.wrap (0 - (ref07_number (List.take (s.length - 1) (List.drop 1 s))).fst))).fst, (ref07_Int (IntKind.i64.wrap (0 - (ref07_number (List.take (s.length - 1) (List.drop 1 s))).fst))).snd.fst, (ref07_Int (IntKind.i64.wrap (0 - (ref07_number (List.take (s.length - 1) (List.drop 1 s))).fst))).snd.snd, 0) (0, 0, [], 0))))) (0, 0, [], 0)) (0, 0, [], 0))
      (br (ref07_number_pre s) (br (!(ref07_number s).snd) (0, 0, [], 1) (br (decide ((ref07_number s).fst > 1125899906842624)) (0, 0, [], 6) (br (ref07_Int_pre (ref07_number s).fst) ((ref07_Int (ref07_number s).fst).fst, (ref07_Int (ref07_number s).fst).snd.fst, (ref07_Int (ref07_number s).fst).snd.snd, 0) (0, 0, [], 0)))) (0, 0, [], 0))) (0, 0, [], 0))
      (br (ref07_number_pre s) (br (!(ref07_number s).snd) (0, 0, [], 1) (br (decide ((ref07_number s).fst > 1125899906842624)) (0, 0, [], 6) (br (ref07_Int_pre (ref07_number s).fst) ((ref07_Int (ref07_number s).fst).fst, (ref07_Int (ref07_number s).fst).snd.fst, (ref07_Int (ref07_number s).fst).snd.snd, 0) (0, 0, [], 0)))) (0, 0, [], 0))) :
    X = digV s := by
  subst hX
  match s, h with
  | [], h => rw [refpos [] h]; rfl
  | b :: r, h =>
    have e0 : (!(b :: r) == []) = true := rfl
    have e1 : decide ((0 : Int) < ((b :: r).length : Int)) = true := decide_eq_true (by simp only [List.length_cons]; omega)
    have e2 : decide ((1 : Int) ≤ ((b :: r).length : Int)) = true := decide_eq_true (by simp only [List.length_cons]; omega)
    have et : List.take ((b :: r).length - 1) (List.drop 1 (b :: r)) = r := by simp
    have g : (b :: r).getD 0 0 = b := rfl
    rw [refpos (b :: r) h, e0, e1, e2, et, g, byte45, refneg r (by simp only [List.length_cons] at h; omega)]
    by_cases hm : b = 45
    · rw [decide_eq_true hm]; simp only [br_tt, digV, if_pos hm]
    · rw [decide_eq_false hm]; simp only [br_tt, br_ff, digV, if_neg hm]
end Go.Sim.M
