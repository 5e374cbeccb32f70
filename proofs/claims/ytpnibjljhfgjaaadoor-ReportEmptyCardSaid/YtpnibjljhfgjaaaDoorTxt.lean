/- Texts of numbers and of values: plain lists. -/
import Derived.Test.YtpnibjljhfgjaaaDoorLibR
set_option linter.unusedVariables false
set_option linter.unusedSimpArgs false
set_option maxRecDepth 100000
namespace Go.Sim.M
open Go.RowKit Go.Lib

/-- A value of the program's own struct. -/
structure Val where
  k : Int
  i : Int
  t : List UInt8
deriving DecidableEq

instance : Inhabited Val := ⟨⟨0, 0, []⟩⟩

def encV (v : Val) : AV := .agg [.int .i64 v.k, .int .i64 v.i, .str v.t]
def Val.wf (v : Val) : Prop := (Lit.int .i64 v.k).wf = true ∧ (Lit.int .i64 v.i).wf = true ∧ v.t.length ≤ maxLen
abbrev Row := List Val
def encR (r : Row) : AV := .list 3 (r.map encV)
def Row.wf (r : Row) : Prop := r.length ≤ maxLen ∧ ∀ v, v ∈ r → v.wf

@[simp] theorem cells_encV (v : Val) : (encV v).cells = [.int .i64 v.k, .int .i64 v.i, .str v.t] := rfl
@[simp] theorem shs_encV (v : Val) : hasShs [Sh.int .i64, Sh.int .i64, Sh.str] [.int .i64 v.k, .int .i64 v.i, .str v.t] 0 = true := rfl
theorem getD_map {α : Type} (e : α → AV) (l : List α) (n : Nat) (h : n < l.length) : (l.map e).getD n .top = e l[n] := by
  simp [List.getD, h]
theorem wrap_nat {n : Nat} (h : n + 1 ≤ maxLen) : IntKind.i64.wrap ((n : Int) + 1) = ((n + 1 : Nat) : Int) := by
  unfold maxLen at h
  rw [wrap_i64 (by omega) (by omega)]; omega
theorem drop_cons {α : Type} {l : List α} {n : Nat} (h : n < l.length) : l.drop n = l[n] :: l.drop (n + 1) := List.drop_eq_getElem_cons h

/-- Two loops that count up and do the same in each round. -/
theorem iter_count2 {ρ : Type} {step1 step2 : Int → Option (Int ⊕ ρ)} {len : Nat} (h : ∀ n : Nat, n ≤ len → step1 n = step2 n ∧ ((∃ r, step1 n = some (.inr r)) ∨ (n < len ∧ step1 n = some (.inl ((n + 1 : Nat) : Int))))) :
    ∀ k n : Nat, n + k = len → Iter step1 (n : Int) = Iter step2 (n : Int) ∧ (Iter step1 (n : Int)).isSome = true
  | 0, n, hk => by
    obtain ⟨e, hr⟩ := h n (by omega)
    rcases hr with ⟨r, hr⟩ | ⟨hlt, _⟩
    · rw [iter_end hr, iter_end (e ▸ hr)]; exact ⟨rfl, rfl⟩
    · omega
  | k + 1, n, hk => by
    obtain ⟨e, hr⟩ := h n (by omega)
    rcases hr with ⟨r, hr⟩ | ⟨hlt, hr⟩
    · rw [iter_end hr, iter_end (e ▸ hr)]; exact ⟨rfl, rfl⟩
    · rw [iter_step hr, iter_step (step := step2) (e.symm.trans hr)]; exact iter_count2 h k (n + 1) (by omega)

def qb (c : UInt8) : List UInt8 := if c = 39 then [39, 39] else [c]

theorem byte39 (c : UInt8) : ((c.toNat : Int) == 39) = decide (c = 39) := by
  by_cases h : c = 39
  · subst h; rfl
  · have : ¬ ((c.toNat : Int) = 39) := fun e => by
      apply h
      apply UInt8.toNat_inj.1
      have : c.toNat = 39 := by omega
      rw [this]; rfl
    simp [h, this]

theorem index_nil {sub : List UInt8} (h : sub ≠ []) : index [] sub = -1 := by
  unfold index; rw [if_neg (by cases sub <;> simp_all)]

theorem index_hit {b : UInt8} {l sub : List UInt8} (h : sub.isPrefixOf (b :: l) = true) : index (b :: l) sub = 0 := by
  rw [index.eq_2, if_pos h]

theorem index_miss {b : UInt8} {l sub : List UInt8} (h : sub.isPrefixOf (b :: l) = false) : index (b :: l) sub = if index l sub == -1 then -1 else index l sub + 1 := by
  rw [index.eq_2, if_neg (by rw [h]; simp)]

theorem countFrom_stable (sub : List UInt8) (hs : sub ≠ []) : ∀ (f : Nat) (s : List UInt8), s.length < f → countFrom sub f s = countFrom sub (f + 1) s
  | 0, s, h => by omega
  | f + 1, s, h => by
    rw [countFrom.eq_2 sub s f, countFrom.eq_2 sub s (f + 1)]
    split
    · rfl
    · rename_i hi
      congr 1
      have hpos : 0 < sub.length := List.length_pos_iff.2 hs
      cases s with
      | nil => rw [index_nil hs] at hi; simp at hi
      | cons b l => exact countFrom_stable sub hs f _ (by simp only [List.length_drop, List.length_cons] at h ⊢; omega)

theorem countFrom_more (sub : List UInt8) (hs : sub ≠ []) {s : List UInt8} : ∀ {f g : Nat}, s.length < f → f ≤ g → countFrom sub f s = countFrom sub g s
  | f, g, h, hg => by
    induction g with
    | zero => omega
    | succ g ih =>
      by_cases e : f = g + 1
      · subst e; rfl
      · rw [ih (by omega)]; exact countFrom_stable sub hs g s (by omega)

theorem count_nil {sub : List UInt8} (h : sub ≠ []) : count [] sub = 0 := by
  unfold count; rw [countFrom.eq_2, index_nil h]; rfl

theorem count_hit {b : UInt8} {l sub : List UInt8} (hs : sub ≠ []) (h : sub.isPrefixOf (b :: l) = true) : count (b :: l) sub = 1 + count ((b :: l).drop sub.length) sub := by
  have hpos : 0 < sub.length := List.length_pos_iff.2 hs
  unfold count
  rw [List.length_cons, countFrom.eq_2, index_hit h, if_neg (by decide)]
  congr 1
  have e : (0 : Int).toNat + sub.length = sub.length := by simp
  rw [e]
  exact (countFrom_more sub hs (by omega) (by simp only [List.length_drop, List.length_cons]; omega)).symm

theorem count_miss {b : UInt8} {l sub : List UInt8} (hs : sub ≠ []) (h : sub.isPrefixOf (b :: l) = false) : count (b :: l) sub = count l sub := by
  unfold count
  rw [List.length_cons, countFrom.eq_2, index_miss h, countFrom.eq_2 sub l l.length]
  cases hi : index l sub == -1 with
  | true => simp
  | false =>
    have hge := index_ge l sub
    have hne : index l sub ≠ -1 := by simpa using hi
    have h1 : (index l sub + 1 == -1) = false := by simp; omega
    simp only [Bool.false_eq_true, if_false, h1]
    congr 1
    have e : (index l sub + 1).toNat + sub.length = ((index l sub).toNat + sub.length) + 1 := by omega
    rw [e, List.drop_succ_cons]
    have hpos : 0 < sub.length := List.length_pos_iff.2 hs
    cases l with
    | nil => rw [index_nil hs] at hne; exact (hne rfl).elim
    | cons c l => exact (countFrom_more sub hs (by simp only [List.length_drop, List.length_cons]; omega) (by simp)).symm

theorem replaceK_miss {old new : List UInt8} (hs : old ≠ []) {b : UInt8} {l : List UInt8} (h : old.isPrefixOf (b :: l) = false) : ∀ k, replaceK old new k (b :: l) = b :: replaceK old new k l
  | 0 => rfl
  | k + 1 => by
    rw [replaceK.eq_2, replaceK.eq_2, index_miss h]
    cases hi : index l old == -1 with
    | true => simp
    | false =>
      have hge := index_ge l old
      have hne : index l old ≠ -1 := by simpa using hi
      have h1 : (index l old + 1 == -1) = false := by simp; omega
      simp only [Bool.false_eq_true, if_false, h1]
      have e1 : (index l old + 1).toNat = (index l old).toNat + 1 := by omega
      rw [e1, List.take_succ_cons, show (index l old).toNat + 1 + old.length = ((index l old).toNat + old.length) + 1 by omega, List.drop_succ_cons]
      rfl

theorem replaceK_hit0 {old new : List UInt8} {b : UInt8} {l : List UInt8} (h : old.isPrefixOf (b :: l) = true) (k : Nat) : replaceK old new (k + 1) (b :: l) = new ++ replaceK old new k ((b :: l).drop old.length) := by
  rw [replaceK.eq_2, index_hit h, if_neg (by decide)]
  simp

theorem replaceAll_def {s old new : List UInt8} (hne : old ≠ new) : replaceAll s old new = replaceK old new (count s old) s := by
  unfold replaceAll replace replaceNum
  rw [if_neg (by simpa using hne), if_pos (.inl (by decide))]

theorem rA_nil {old new : List UInt8} (hs : old ≠ []) (hne : old ≠ new) : replaceAll [] old new = [] := by
  rw [replaceAll_def hne, count_nil hs]; rfl

theorem rA_hit {old new : List UInt8} (hs : old ≠ []) (hne : old ≠ new) {b : UInt8} {l : List UInt8} (h : old.isPrefixOf (b :: l) = true) : replaceAll (b :: l) old new = new ++ replaceAll ((b :: l).drop old.length) old new := by
  rw [replaceAll_def hne, replaceAll_def hne, count_hit hs h, Nat.add_comm 1, replaceK_hit0 h]

theorem rA_miss {old new : List UInt8} (hs : old ≠ []) (hne : old ≠ new) {b : UInt8} {l : List UInt8} (h : old.isPrefixOf (b :: l) = false) : replaceAll (b :: l) old new = b :: replaceAll l old new := by
  rw [replaceAll_def hne, replaceAll_def hne, count_miss hs h, replaceK_miss hs h]

theorem count_le (sub : List UInt8) (hs : sub ≠ []) : ∀ (n : Nat) (s : List UInt8), s.length ≤ n → count s sub ≤ s.length
  | 0, s, h => by
    have : s = [] := List.length_eq_zero_iff.1 (by omega)
    subst this; rw [count_nil hs]; exact Nat.le_refl _
  | n + 1, [], h => by rw [count_nil hs]; exact Nat.le_refl _
  | n + 1, b :: l, h => by
    have hpos : 0 < sub.length := List.length_pos_iff.2 hs
    cases hp : sub.isPrefixOf (b :: l) with
    | true =>
      rw [count_hit hs hp]
      have := count_le sub hs n ((b :: l).drop sub.length) (by simp only [List.length_drop, List.length_cons] at h ⊢; omega)
      simp only [List.length_drop, List.length_cons] at this ⊢
      omega
    | false =>
      rw [count_miss hs hp]
      have := count_le sub hs n l (by simp at h; omega)
      simp only [List.length_cons]; omega

theorem pre1 (b : UInt8) (l : List UInt8) : ([39] : List UInt8).isPrefixOf (b :: l) = decide (b = 39) := by
  by_cases h : b = 39
  · subst h; simp [List.isPrefixOf]
  · have : ((39 : UInt8) == b) = false := by simpa using fun e => h e.symm
    simp [List.isPrefixOf, this, h]
/-- Every quote doubled. -/
theorem repl_quote : ∀ t : List UInt8, replaceAll t [39] [39, 39] = t.flatMap qb
  | [] => rA_nil (by simp) (by simp)
  | b :: l => by
    by_cases h : b = 39
    · rw [rA_hit (by simp) (by simp) (by rw [pre1]; simpa using h), List.flatMap_cons]
      simp only [List.length_cons, List.length_nil, Nat.zero_add, List.drop_succ_cons, List.drop_zero]
      rw [repl_quote l]; simp [qb, h]
    · rw [rA_miss (by simp) (by simp) (by rw [pre1]; simpa using h), List.flatMap_cons, repl_quote l]; simp [qb, h]

def lead (n : Nat) : Nat := if h : n < 10 then n else lead (n / 10)
termination_by n
decreasing_by omega
def dtail (n : Nat) : List UInt8 := if h : n < 10 then [] else dtail (n / 10) ++ [UInt8.ofNat (48 + n % 10)]
termination_by n
decreasing_by omega

def digits10 : List UInt8 := [48, 49, 50, 51, 52, 53, 54, 55, 56, 57]
theorem digit_at : ∀ m : Nat, m < 10 → List.take 1 (List.drop m digits10) = [UInt8.ofNat (48 + m)] := by decide

theorem lead_lt (n : Nat) : lead n < 10 := by
  induction n using Nat.strongRecOn with
  | _ n ih =>
    rw [lead]
    split
    · assumption
    · exact ih (n / 10) (by omega)

theorem dtail_len (n : Nat) : (dtail n).length ≤ n := by
  induction n using Nat.strongRecOn with
  | _ n ih =>
    rw [dtail]
    split
    · simp
    · have := ih (n / 10) (by omega)
      simp only [List.length_append, List.length_cons, List.length_nil]; omega

theorem dec_eq (n : Nat) : decDigits n = UInt8.ofNat (48 + lead n) :: dtail n := by
  induction n using Nat.strongRecOn with
  | _ n ih =>
    rw [decDigits, lead, dtail]
    by_cases h : n < 10
    · rw [dif_pos h, dif_pos h, dif_pos h]
    · rw [dif_neg h, dif_neg h, dif_neg h, ih (n / 10) (by omega)]; rfl

def quoteV (t : List UInt8) : List UInt8 := [39] ++ t.flatMap qb ++ [39]

theorem qb_len : ∀ t : List UInt8, (t.flatMap qb).length ≤ 2 * t.length
  | [] => by simp
  | c :: t => by
    have := qb_len t
    simp only [List.flatMap_cons, List.length_append, List.length_cons]
    have : (qb c).length ≤ 2 := by unfold qb; split <;> simp
    omega

inductive VForm (k i : Int) (t : List UInt8) : Prop where
  | null (h1 : k = 0) (h2 : i = 0) (h3 : t = [])
  | int (h1 : k = 1) (h2 : t = []) (h3 : -1125899906842624 ≤ i) (h4 : i ≤ 1125899906842624)
  | text (h1 : k = 2) (h2 : i = 0) (h3 : t.length ≤ 200)
  | bool (h1 : k = 3) (h2 : t = []) (h3 : i = 0 ∨ i = 1)

theorem dec_len : ∀ (k n : Nat), n < 10 ^ (k + 1) → (decDigits n).length ≤ k + 1
  | 0, n, h => by rw [decDigits, dif_pos (by simpa using h)]; simp
  | k + 1, n, h => by
    rw [decDigits]
    split
    · simp
    · have := dec_len k (n / 10) (by rw [Nat.pow_succ] at h; omega)
      simp; omega

end Go.Sim.M
