/- Replacing in texts: what the library's words for it say, step by step. -/
import Derived.Test.YtkoepgogaojgmaaDoorL19
import Derived.Test.YtkoepgogaojgmaaDoorPlainC
set_option linter.unusedVariables false
set_option linter.unusedSimpArgs false
set_option maxRecDepth 100000
namespace Go.Sim.M
open Go.RowKit Go.Lib

theorem index_nil {sub : List UInt8} (h : sub ≠ []) : index [] sub = -1 := by
  unfold index; rw [if_neg (by cases sub <;> simp_all)]

theorem index_hit {b : UInt8} {l sub : List UInt8} (h : sub.isPrefixOf (b :: l) = true) : index (b :: l) sub = 0 := by
  rw [index.eq_2, if_pos h]

theorem index_miss {b : UInt8} {l sub : List UInt8} (h : sub.isPrefixOf (b :: l) = false) : index (b :: l) sub = if index l sub == -1 then -1 else index l sub + 1 := by
  rw [index.eq_2, if_neg (by rw [h]; simp)]

theorem countFrom_stable (sub : List UInt8) (hs : sub ≠ []) : ∀ (f : Nat) (s : List UInt8), s.length < f → countFrom sub f s = countFrom sub (f + 1) s
  | 0, s, h => by omega
  | f + 1, s, h => by
    rw [countFrom.eq_2 sub s f, countFrom.eq_2 sub s (f + 1)]
    split
    · rfl
    · rename_i hi
      congr 1
      have hpos : 0 < sub.length := List.length_pos_iff.2 hs
      cases s with
      | nil => rw [index_nil hs] at hi; simp at hi
      | cons b l => exact countFrom_stable sub hs f _ (by simp only [List.length_drop, List.length_cons] at h ⊢; omega)

theorem countFrom_more (sub : List UInt8) (hs : sub ≠ []) {s : List UInt8} : ∀ {f g : Nat}, s.length < f → f ≤ g → countFrom sub f s = countFrom sub g s
  | f, g, h, hg => by
    induction g with
    | zero => omega
    | succ g ih =>
      by_cases e : f = g + 1
      · subst e; rfl
      · rw [ih (by omega)]; exact countFrom_stable sub hs g s (by omega)

theorem count_nil {sub : List UInt8} (h : sub ≠ []) : count [] sub = 0 := by
  unfold count; rw [countFrom.eq_2, index_nil h]; rfl

theorem count_hit {b : UInt8} {l sub : List UInt8} (hs : sub ≠ []) (h : sub.isPrefixOf (b :: l) = true) : count (b :: l) sub = 1 + count ((b :: l).drop sub.length) sub := by
  have hpos : 0 < sub.length := List.length_pos_iff.2 hs
  unfold count
  rw [List.length_cons, countFrom.eq_2, index_hit h, if_neg (by decide)]
  congr 1
  have e : (0 : Int).toNat + sub.length = sub.length := by simp
  rw [e]
  exact (countFrom_more sub hs (by omega) (by simp only [List.length_drop, List.length_cons]; omega)).symm

theorem count_miss {b : UInt8} {l sub : List UInt8} (hs : sub ≠ []) (h : sub.isPrefixOf (b :: l) = false) : count (b :: l) sub = count l sub := by
  unfold count
  rw [List.length_cons, countFrom.eq_2, index_miss h, countFrom.eq_2 sub l l.length]
  cases hi : index l sub == -1 with
  | true => simp
  | false =>
    have hge := index_ge l sub
    have hne : index l sub ≠ -1 := by simpa using hi
    have h1 : (index l sub + 1 == -1) = false := by simp; omega
    simp only [Bool.false_eq_true, if_false, h1]
    congr 1
    have e : (index l sub + 1).toNat + sub.length = ((index l sub).toNat + sub.length) + 1 := by omega
    rw [e, List.drop_succ_cons]
    have hpos : 0 < sub.length := List.length_pos_iff.2 hs
    cases l with
    | nil => rw [index_nil hs] at hne; exact (hne rfl).elim
    | cons c l => exact (countFrom_more sub hs (by simp only [List.length_drop, List.length_cons]; omega) (by simp)).symm

theorem replaceK_miss {old new : List UInt8} (hs : old ≠ []) {b : UInt8} {l : List UInt8} (h : old.isPrefixOf (b :: l) = false) : ∀ k, replaceK old new k (b :: l) = b :: replaceK old new k l
  | 0 => rfl
  | k + 1 => by
    rw [replaceK.eq_2, replaceK.eq_2, index_miss h]
    cases hi : index l old == -1 with
    | true => simp
    | false =>
      have hge := index_ge l old
      have hne : index l old ≠ -1 := by simpa using hi
      have h1 : (index l old + 1 == -1) = false := by simp; omega
      simp only [Bool.false_eq_true, if_false, h1]
      have e1 : (index l old + 1).toNat = (index l old).toNat + 1 := by omega
      rw [e1, List.take_succ_cons, show (index l old).toNat + 1 + old.length = ((index l old).toNat + old.length) + 1 by omega, List.drop_succ_cons]
      rfl

theorem replaceK_hit0 {old new : List UInt8} {b : UInt8} {l : List UInt8} (h : old.isPrefixOf (b :: l) = true) (k : Nat) : replaceK old new (k + 1) (b :: l) = new ++ replaceK old new k ((b :: l).drop old.length) := by
  rw [replaceK.eq_2, index_hit h, if_neg (by decide)]
  simp

theorem replaceAll_def {s old new : List UInt8} (hne : old ≠ new) : replaceAll s old new = replaceK old new (count s old) s := by
  unfold replaceAll replace replaceNum
  rw [if_neg (by simpa using hne), if_pos (.inl (by decide))]

theorem rA_nil {old new : List UInt8} (hs : old ≠ []) (hne : old ≠ new) : replaceAll [] old new = [] := by
  rw [replaceAll_def hne, count_nil hs]; rfl

theorem rA_hit {old new : List UInt8} (hs : old ≠ []) (hne : old ≠ new) {b : UInt8} {l : List UInt8} (h : old.isPrefixOf (b :: l) = true) : replaceAll (b :: l) old new = new ++ replaceAll ((b :: l).drop old.length) old new := by
  rw [replaceAll_def hne, replaceAll_def hne, count_hit hs h, Nat.add_comm 1, replaceK_hit0 h]

theorem rA_miss {old new : List UInt8} (hs : old ≠ []) (hne : old ≠ new) {b : UInt8} {l : List UInt8} (h : old.isPrefixOf (b :: l) = false) : replaceAll (b :: l) old new = b :: replaceAll l old new := by
  rw [replaceAll_def hne, replaceAll_def hne, count_miss hs h, replaceK_miss hs h]

theorem count_le (sub : List UInt8) (hs : sub ≠ []) : ∀ (n : Nat) (s : List UInt8), s.length ≤ n → count s sub ≤ s.length
  | 0, s, h => by
    have : s = [] := List.length_eq_zero_iff.1 (by omega)
    subst this; rw [count_nil hs]; exact Nat.le_refl _
  | n + 1, [], h => by rw [count_nil hs]; exact Nat.le_refl _
  | n + 1, b :: l, h => by
    have hpos : 0 < sub.length := List.length_pos_iff.2 hs
    cases hp : sub.isPrefixOf (b :: l) with
    | true =>
      rw [count_hit hs hp]
      have := count_le sub hs n ((b :: l).drop sub.length) (by simp only [List.length_drop, List.length_cons] at h ⊢; omega)
      simp only [List.length_drop, List.length_cons] at this ⊢
      omega
    | false =>
      rw [count_miss hs hp]
      have := count_le sub hs n l (by simp at h; omega)
      simp only [List.length_cons]; omega

theorem pre1 (b : UInt8) (l : List UInt8) : ([39] : List UInt8).isPrefixOf (b :: l) = decide (b = 39) := by
  by_cases h : b = 39
  · subst h; simp [List.isPrefixOf]
  · have : ((39 : UInt8) == b) = false := by simpa using fun e => h e.symm
    simp [List.isPrefixOf, this, h]
theorem pre2 (b c : UInt8) (l : List UInt8) : ([39, 39] : List UInt8).isPrefixOf (b :: c :: l) = (decide (b = 39) && decide (c = 39)) := by
  have := pre1 b (c :: l)
  have := pre1 c l
  simp only [List.isPrefixOf, Bool.and_true] at *
  simp_all
theorem pre2' (b : UInt8) : ([39, 39] : List UInt8).isPrefixOf [b] = false := by simp [List.isPrefixOf]

/-- Every quote doubled. -/
theorem repl_quote : ∀ t : List UInt8, replaceAll t [39] [39, 39] = t.flatMap qb
  | [] => rA_nil (by simp) (by simp)
  | b :: l => by
    by_cases h : b = 39
    · rw [rA_hit (by simp) (by simp) (by rw [pre1]; simpa using h), List.flatMap_cons]
      simp only [List.length_cons, List.length_nil, Nat.zero_add, List.drop_succ_cons, List.drop_zero]
      rw [repl_quote l]; simp [qb, h]
    · rw [rA_miss (by simp) (by simp) (by rw [pre1]; simpa using h), List.flatMap_cons, repl_quote l]; simp [qb, h]

theorem contains_nil : contains [] [39] = false := by decide
theorem contains_cons (b : UInt8) (l : List UInt8) : contains (b :: l) [39] = (decide (b = 39) || contains l [39]) := by
  unfold contains
  by_cases h : b = 39
  · rw [index_hit (by rw [pre1]; simpa using h)]; simp [h]
  · rw [index_miss (by rw [pre1]; simpa using h)]
    have hge := index_ge l [39]
    by_cases hi : index l [39] = -1
    · simp [hi, h]
    · have e : (index l [39] == -1) = false := by simpa using hi
      simp [e, h]; omega

theorem pair_other {b : UInt8} {l new : List UInt8} (hn : new ≠ [39, 39]) (h : b ≠ 39) : replaceAll (b :: l) [39, 39] new = b :: replaceAll l [39, 39] new :=
  rA_miss (by simp) (Ne.symm hn) (by cases l with
    | nil => exact pre2' b
    | cons c l => rw [pre2]; simp [h])

theorem pair_single (new : List UInt8) (hn : new ≠ [39, 39]) : replaceAll [39] [39, 39] new = [39] := by
  rw [rA_miss (by simp) (Ne.symm hn) (pre2' 39), rA_nil (by simp) (Ne.symm hn)]

theorem pair_hit (l new : List UInt8) (hn : new ≠ [39, 39]) : replaceAll (39 :: 39 :: l) [39, 39] new = new ++ replaceAll l [39, 39] new := by
  rw [rA_hit (by simp) (Ne.symm hn) (by rw [pre2]; simp)]; simp

theorem pair_miss {c : UInt8} (l new : List UInt8) (hn : new ≠ [39, 39]) (h : c ≠ 39) : replaceAll (39 :: c :: l) [39, 39] new = 39 :: replaceAll (c :: l) [39, 39] new :=
  rA_miss (by simp) (Ne.symm hn) (by rw [pre2]; simp [h])

/-- No quote is left where all stand in pairs. -/
theorem pairs_gone : ∀ u : List UInt8, contains (replaceAll u [39, 39] []) [39] = !(unqOk u)
  | [] => by rw [rA_nil (by simp) (by simp)]; rfl
  | [c] => by
    by_cases h : c = 39
    · subst h; rw [pair_single _ (by simp), contains_cons]; simp [unqOk]
    · rw [pair_other (by simp) h, rA_nil (by simp) (by simp), contains_cons, contains_nil]; simp [unqOk, h]
  | c :: c2 :: r => by
    by_cases h : c = 39
    · subst h
      by_cases h2 : c2 = 39
      · subst h2
        rw [pair_hit _ _ (by simp), List.nil_append, pairs_gone r]; simp [unqOk]
      · rw [pair_miss _ _ (by simp) h2, contains_cons]; simp [unqOk, h2]
    · rw [pair_other (by simp) h, contains_cons, pairs_gone (c2 :: r)]; simp [unqOk, h]

theorem pairs_one : ∀ u : List UInt8, unqOk u = true → replaceAll u [39, 39] [39] = unq u
  | [], _ => by rw [rA_nil (by simp) (by simp)]; rfl
  | [c], hu => by
    have h : c ≠ 39 := by simpa [unqOk] using hu
    rw [pair_other (by simp) h, rA_nil (by simp) (by simp)]; simp [unq, h]
  | c :: c2 :: r, hu => by
    by_cases h : c = 39
    · subst h
      by_cases h2 : c2 = 39
      · subst h2
        have hr : unqOk r = true := by simpa [unqOk] using hu
        rw [pair_hit _ _ (by simp), pairs_one r hr]; simp [unq]
      · simp [unqOk, h2] at hu
    · have hr : unqOk (c2 :: r) = true := by simpa [unqOk, h] using hu
      rw [pair_other (by simp) h, pairs_one _ hr]; simp [unq, h]

theorem pairs_len (new : List UInt8) (hn : new ≠ [39, 39]) (hl : new.length ≤ 2) : ∀ u : List UInt8, (replaceAll u [39, 39] new).length ≤ u.length
  | [] => by rw [rA_nil (by simp) (Ne.symm hn)]; simp
  | [c] => by
    by_cases h : c = 39
    · subst h; rw [pair_single _ hn]; simp
    · rw [pair_other hn h, rA_nil (by simp) (Ne.symm hn)]; simp
  | c :: c2 :: r => by
    by_cases h : c = 39
    · subst h
      by_cases h2 : c2 = 39
      · subst h2
        rw [pair_hit _ _ hn]
        have := pairs_len new hn hl r
        simp only [List.length_append, List.length_cons]; omega
      · rw [pair_miss _ _ hn h2]
        have := pairs_len new hn hl (c2 :: r)
        simp only [List.length_cons] at *; omega
    · rw [pair_other hn h]
      have := pairs_len new hn hl (c2 :: r)
      simp only [List.length_cons] at *; omega

/-- Quoting and reading back. -/
theorem unq_quote : ∀ t : List UInt8, unqOk (t.flatMap qb) = true ∧ unq (t.flatMap qb) = t
  | [] => by simp [unqOk, unq]
  | b :: l => by
    obtain ⟨h1, h2⟩ := unq_quote l
    by_cases h : b = 39
    · subst h; simp [qb, unqOk, unq, h1, h2]
    · rw [List.flatMap_cons]
      have e : qb b = [b] := if_neg h
      rw [e, List.singleton_append, unqOk_other h, unq_other h, h1, h2]; simp
theorem quote_unq : ∀ u : List UInt8, unqOk u = true → (unq u).flatMap qb = u
  | [], _ => by simp [unq]
  | [c], hu => by
    have h : c ≠ 39 := by simpa [unqOk] using hu
    simp [unq, h, qb]
  | c :: c2 :: r, hu => by
    by_cases h : c = 39
    · subst h
      by_cases h2 : c2 = 39
      · subst h2
        have hr : unqOk r = true := by simpa [unqOk] using hu
        simp [unq, qb, quote_unq r hr]
      · simp [unqOk, h2] at hu
    · have hr : unqOk (c2 :: r) = true := by simpa [unqOk, h] using hu
      have := quote_unq _ hr
      simp only [unq, if_neg h, List.flatMap_cons, qb] at this ⊢
      rw [this]; rfl
end Go.Sim.M
