/- Reading of values, second part: quoted texts. -/
import Derived.Test.YtkoepgogaojgmaaDoorPlainE
set_option linter.unusedVariables false
set_option linter.unusedSimpArgs false
set_option maxRecDepth 100000
namespace Go.Sim.M
open Go.RowKit Go.Lib

def errV (e : Int) : Int × Int × List UInt8 × Int := (0, 0, [], e)

/-- What a quoted text 'u' between its quotes reads as. -/
def textV (u : List UInt8) : Int × Int × List UInt8 × Int := br (u.all okb && unqOk u) (br (decide ((unq u).length ≤ 200)) (2, 0, unq u, 0) (errV 5)) (errV 1)

def big : Nat := 4294967000

theorem parseText_nil : value_parseText_pre [] = true ∧ value_parseText [] = errV 1 := ⟨rfl, rfl⟩

theorem parseText_snoc (u : List UInt8) (x : UInt8) (h : u.length ≤ big) : value_parseText_pre (u ++ [x]) = true ∧ value_parseText (u ++ [x]) = if x = 39 then textV u else errV 1 := by
  unfold big at h
  obtain ⟨p, v⟩ := cs_snoc 39 x u (by unfold strMax; omega)
  have hsm : u.length ≤ strMax := by unfold strMax; omega
  unfold value_parseText_pre value_parseText
  rw [p, v]
  by_cases hx : x = 39
  · simp only [if_pos hx, Bool.not_true, br_tt, br_ff]
    rw [pp_pre hsm, pp_eq hsm]
    simp only [br_tt]
    have l1 := pairs_len [] (by simp) (by simp) u
    have l2 := pairs_len [39] (by simp) (by simp) u
    have l3 := count_le [39, 39] (by simp) _ u (Nat.le_refl _)
    have e1 : (decide (u.length < 4294967281) && decide (u.length + 0 ≤ 140737488355328)) = true := by simp; omega
    have e2 : decide ((replaceAll u [39, 39] []).length < 4294967281) = true := decide_eq_true (by omega)
    have e3 : (decide (u.length < 4294967281) && decide (u.length + count u [39, 39] * 1 ≤ 140737488355328)) = true := by simp; omega
    rw [e1, e2, e3, pairs_gone]
    simp only [br_tt]
    unfold textV errV
    cases ha : u.all okb with
    | false => exact ⟨rfl, rfl⟩
    | true =>
      cases hu : unqOk u with
      | false => exact ⟨rfl, rfl⟩
      | true =>
        rw [pairs_one u hu]
        simp only [Bool.not_true, br_ff, Bool.and_true, br_tt]
        by_cases hl : (unq u).length ≤ 200
        · have f : decide (((unq u).length : Int) > 200) = false := decide_eq_false (by omega)
          rw [f, decide_eq_true hl]; exact ⟨rfl, rfl⟩
        · have f : decide (((unq u).length : Int) > 200) = true := decide_eq_true (by omega)
          rw [f, decide_eq_false hl]; exact ⟨rfl, rfl⟩
  · simp only [if_neg hx, Bool.not_false, br_tt]
    first | exact ⟨rfl, rfl⟩ | exact ⟨trivial, rfl⟩

theorem unq_all : ∀ u : List UInt8, unqOk u = true → (unq u).all okb = u.all okb
  | [], _ => rfl
  | [c], hu => by
    have h : c ≠ 39 := by simpa [unqOk] using hu
    simp [unq, h]
  | c :: c2 :: r, hu => by
    by_cases h : c = 39
    · subst h
      by_cases h2 : c2 = 39
      · subst h2
        have hr : unqOk r = true := by simpa [unqOk] using hu
        have e : okb 39 = true := by decide
        have := unq_all r hr
        simp only [unq, if_true, List.all_cons, e, Bool.true_and, this]
      · simp [unqOk, h2] at hu
    · have hr : unqOk (c2 :: r) = true := by simpa [unqOk, h] using hu
      have := unq_all _ hr
      simp only [unq, if_neg h, List.all_cons] at this ⊢
      rw [this]

theorem unq_len : ∀ u : List UInt8, (unq u).length ≤ u.length
  | [] => Nat.le_refl _
  | [c] => by by_cases h : c = 39 <;> simp [unq, h]
  | c :: c2 :: r => by
    by_cases h : c = 39
    · by_cases h2 : c2 = 39
      · have := unq_len r
        simp only [unq, if_pos h, if_pos h2, List.length_cons]; omega
      · simp [unq, h, h2]
    · have := unq_len (c2 :: r)
      simp only [unq, if_neg h, List.length_cons] at this ⊢; omega

theorem unquote_short : (ref07_unquote_pre [] = true ∧ ref07_unquote [] = ([], false)) ∧ ∀ x, ref07_unquote_pre [x] = true ∧ ref07_unquote [x] = ([], false) := ⟨⟨rfl, rfl⟩, fun x => ⟨rfl, rfl⟩⟩

theorem getD_snoc (b x : UInt8) (u : List UInt8) : (b :: (u ++ [x])).getD (u.length + 1) 0 = x := by simp

theorem byte39n (c : UInt8) : ((c.toNat : Int) != 39) = !(decide (c = 39)) := by rw [← byte39]; rfl

theorem unquote_long (b x : UInt8) (u : List UInt8) (h : u.length ≤ big) : ref07_unquote_pre (b :: (u ++ [x])) = true ∧
    ref07_unquote (b :: (u ++ [x])) = if b = 39 ∧ x = 39 ∧ unqOk u = true then (unq u, (unq u).all okb) else ([], false) := by
  unfold big at h
  have len : ((b :: (u ++ [x])).length : Int) = (u.length : Int) + 2 := by simp only [List.length_cons, List.length_append, List.length_nil]; omega
  have ew : IntKind.i64.wrap (((b :: (u ++ [x])).length : Int) - 1) = ((u.length + 1 : Nat) : Int) := by
    rw [len, wrap_i64 (by omega) (by omega)]; omega
  have c1 : decide (((b :: (u ++ [x])).length : Int) < 2) = false := decide_eq_false (by rw [len]; omega)
  have c2 : decide ((0 : Int) < ((b :: (u ++ [x])).length : Int)) = true := decide_eq_true (by rw [len]; omega)
  have c3 : (decide ((0 : Int) ≤ ((u.length + 1 : Nat) : Int)) && decide (((u.length + 1 : Nat) : Int) < ((b :: (u ++ [x])).length : Int))) = true := by rw [len]; simp; omega
  have c4 : (decide ((0 : Int) ≤ ((u.length + 1 : Nat) : Int)) && decide (((u.length + 1 : Nat) : Int) ≤ ((b :: (u ++ [x])).length : Int)) && decide ((1 : Int) ≤ (((((u.length + 1 : Nat) : Int)).toNat : Nat) : Int))) = true := by rw [len, Int.toNat_natCast]; simp; omega
  have et : List.take ((((u.length + 1 : Nat) : Int)).toNat - 1) (List.drop 1 (b :: (u ++ [x]))) = u := by rw [Int.toNat_natCast]; simp
  have c5 : decide (u.length ≤ 1152921504606846976) = true := decide_eq_true (by omega)
  have g0 : (b :: (u ++ [x])).getD 0 0 = b := rfl
  have g1 : (b :: (u ++ [x])).getD (((u.length + 1 : Nat) : Int)).toNat 0 = x := by rw [Int.toNat_natCast]; exact getD_snoc b x u
  have hl := unq_len u
  unfold ref07_unquote_pre ref07_unquote
  rw [ew, et, c1, c2, c3, c4, c5, g0, g1, byte39n, byte39n]
  simp only [br_tt, br_ff, List.drop_zero, List.nil_append]
  rw [rp_pre (s := unq u) (by unfold strMax; omega), rp_eq (s := unq u) (by unfold strMax; omega)]
  by_cases hb : b = 39
  · by_cases hx : x = 39
    · cases hu : unqOk u with
      | true => rw [if_pos ⟨hb, hx, rfl⟩, decide_eq_true hb, decide_eq_true hx]; exact ⟨rfl, rfl⟩
      | false => rw [if_neg (by simp), decide_eq_true hb, decide_eq_true hx]; exact ⟨rfl, rfl⟩
    · rw [if_neg (by simp [hx]), decide_eq_true hb, decide_eq_false hx]; exact ⟨rfl, rfl⟩
  · rw [if_neg (by simp [hb]), decide_eq_false hb]; exact ⟨rfl, rfl⟩
end Go.Sim.M
